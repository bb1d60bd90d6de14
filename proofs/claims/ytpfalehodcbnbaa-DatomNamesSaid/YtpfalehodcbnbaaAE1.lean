/- Contracts of keys' reader: bytes taken, numbers. -/
import Derived.Test.YtpfalehodcbnbaaAD10
import Derived.Test.YtpfalehodcbnbaaOps7
namespace Go.Proofs
open Go.AL
attribute [local irreducible] Go.AL.W Go.AL.WL Go.AL.WD Go.AL.POp Go.AL.PPOp Go.AL.POpS Go.AL.PC Go.AL.AC Go.AL.YW Go.AL.Ret Go.AL.Le Go.AL.thn Go.AL.inBlk Go.AL.scp

/-- A reader: its bytes, and whether they say nothing. -/
abbrev rdC (b : List UInt8) (bad : Bool) : AObj := .cells [.sl none 1 (b.map byteC), .sc (.bool bad)]
def takeX (b : List UInt8) (bad : Bool) (n : Nat) : Bool := bad || decide (b.length < n)
def takeV (b : List UInt8) (bad : Bool) (n : Nat) : List UInt8 := if takeX b bad n then List.replicate n 0 else b.take n
def takeB (b : List UInt8) (bad : Bool) (n : Nat) : List UInt8 := if takeX b bad n then b else b.drop n

set_option maxHeartbeats 4000000 in
theorem take_ac [GlobF Try.prog] {h : List AObj} {r n : Nat} {b : List UInt8} {bad : Bool} (hr : h[r]? = some (rdC b bad)) (hn : n < 1000) :
    AC Try.prog 119 [.bp r 0, .sc (.int .i64 (n : Int))] h (fun v h' => v = .sl none 1 ((takeV b bad n).map byteC) ∧ h' = h.set r (rdC (takeB b bad n) (takeX b bad n))) := by
  refine AC.of_body Try.func119 Try.ntmps119 rfl rfl rfl ?_
  repeat' first
    | (apply p1 (hd := rfl); case hop => first | (apply D_move; rfl) | (apply D_assign; rfl) | (apply D_load1; rfl) | (apply D_fld; rfl) | (apply D_pickT; rfl; rfl) | (apply D_pickF; rfl; rfl) | (apply D_int; rfl; rfl; rfl) | (apply D_lenM; rfl) | (apply D_len_sl; rfl) | (apply D_loadW; rfl; rfl) | (apply D_loadA; rfl; rfl) | (apply D_len_nil; rfl) | (apply D_slVM; rfl; rfl; rfl; all_goals first | omega | ((repeat rw [w64 _ (by omega) (by omega)]); omega) | decide) | (apply D_slVhM; rfl; rfl; all_goals first | omega | ((repeat rw [w64 _ (by omega) (by omega)]); omega) | decide) | (apply D_slVlM; rfl; rfl; all_goals first | omega | ((repeat rw [w64 _ (by omega) (by omega)]); omega) | decide) | (apply D_slV; rfl; rfl; rfl; all_goals first | omega | ((repeat rw [w64 _ (by omega) (by omega)]); omega) | decide) | (apply D_slVh; rfl; rfl; all_goals first | omega | ((repeat rw [w64 _ (by omega) (by omega)]); omega) | decide) | (apply D_slVl; rfl; rfl; all_goals first | omega | ((repeat rw [w64 _ (by omega) (by omega)]); omega) | decide) | exact D_fldB rfl | (apply D_nilB; rfl) | (apply D_nilE; rfl) | (apply D_mkB; rfl; rfl; all_goals first | omega | ((repeat rw [w64 _ (by omega) (by omega)]); omega) | decide) | (apply D_mk1; rfl; rfl; rfl; all_goals first | omega | ((repeat rw [w64 _ (by omega) (by omega)]); omega) | decide))
    | refine W_seq ?_
    | refine W_region ?_
    | (refine idC ?_; first | refine c1 rfl ?_ | refine c0 rfl ?_ | refine cs rfl (fun _ => ?_) (fun _ => ?_))
    | refine WL_nil ?_
    | (refine idG ?_; first | refine g0t rfl rfl rfl ?_ | refine g0f rfl rfl rfl ?_ | refine g0u rfl rfl rfl ?_ | refine gr rfl rfl ?_ | refine gs rfl rfl (fun _ => ?_) (fun _ => ?_) | refine grn rfl rfl ?_)
    | refine tn ?_
    | refine tr ?_
    | refine br ?_
    | refine bn ?_
    | refine te ?_
    | (refine idB ?_; first | refine bh rfl ?_ | refine bm rfl ?_)
    | refine W_skip ?_
    | refine W_block ?_
    | refine W_exit ?_
    | refine W_ret ?_
    | refine W_label ?_
    | refine W_scope ?_
    | refine sn ?_
    | refine sr ?_
    | refine se ?_
    | (refine idLd ?_; first | refine p1L (D_loadB1 rfl rfl rfl) rfl ?_ | refine p1L (D_loadBA rfl rfl rfl) rfl ?_ | refine p1L (D_loadB1 rfl (by (repeat first | assumption | exact get_last | (refine get_last2 ?_; focus (simp; done)) | apply get_set | apply get_app | (apply get_ne; focus omega) | (apply get_ne; focus (simp only [List.length_set, List.length_append, List.length_cons, List.length_nil]; omega))); done) (by rfl)) rfl ?_ | refine p1L (D_loadBA rfl (by (repeat first | assumption | exact get_last | (refine get_last2 ?_; focus (simp; done)) | apply get_set | apply get_app | (apply get_ne; focus omega) | (apply get_ne; focus (simp only [List.length_set, List.length_append, List.length_cons, List.length_nil]; omega))); done) (by rfl)) rfl ?_)
    | (refine idS ?_; first | refine pS (S_store rfl rfl rfl rfl rfl rfl rfl) ?_ | refine pS (S_store rfl rfl rfl (by (repeat first | assumption | exact get_last | (refine get_last2 ?_; focus (simp; done)) | apply get_set | apply get_app | (apply get_ne; focus omega) | (apply get_ne; focus (simp only [List.length_set, List.length_append, List.length_cons, List.length_nil]; omega))); done) (by rfl) (by rfl) (by rfl)) ?_)
    | refine Le.bool ?_
    | refine Le.int ?_
    | refine Le.str ?_
  all_goals
    refine retK1 (.inl rfl) rfl rfl (ResO.tmp rfl) ?_
  · rename_i h1
    have hx : takeX b bad n = true := by simp [takeX, h1]
    rw [takeV, takeB, hx, if_pos rfl, if_pos rfl]
    exact ⟨rfl, rfl⟩
  · rename_i h1 h2
    have hx : takeX b bad n = true := by simp [takeX, h1]; omega
    rw [takeV, takeB, hx, if_pos rfl, if_pos rfl]
    exact ⟨rfl, rfl⟩
  · rename_i h1 h2
    have hx : takeX b bad n = false := by simp [takeX, h1]; omega
    rw [takeV, takeB, hx, if_neg Bool.false_ne_true, if_neg Bool.false_ne_true]
    subst h1
    exact ⟨rfl, rfl⟩

/-! Numbers. -/
def numR (l : List UInt8) : Nat := l.foldl (fun v c => (v * 256 + c.toNat) % 18446744073709551616) 0
def numV (l : List UInt8) : Int := IntKind.i64.wrap (((numR l + 9223372036854775808) % 18446744073709551616 : Nat) : Int)
theorem numR_lt (l : List UInt8) : numR l < 18446744073709551616 := by
  unfold numR
  suffices h : ∀ (l : List UInt8) (v : Nat), v < 18446744073709551616 → l.foldl (fun v c => (v * 256 + c.toNat) % 18446744073709551616) v < 18446744073709551616 from h l 0 (by decide)
  intro l
  induction l with
  | nil => exact fun v h => h
  | cons c l ih => exact fun v h => ih _ (Nat.mod_lt _ (by decide))
theorem numR_succ (l : List UInt8) (i : Nat) (h : i < l.length) : numR (l.take (i + 1)) = (numR (l.take i) * 256 + l[i].toNat) % 18446744073709551616 := by
  unfold numR
  rw [List.take_succ_eq_append_getElem h, List.foldl_append]; rfl
theorem shor (v c : Nat) (hv : v < 18446744073709551616) (hc : c < 256) :
    IntKind.u64.wrap ((BitVec.ofInt IntKind.u64.bits (IntKind.u64.wrap ((v : Int) * 2 ^ (min (8 : Int).toNat IntKind.u64.bits))) ||| BitVec.ofInt IntKind.u64.bits (IntKind.u64.wrap (c : Int))).toNat : Int) = (((v * 256 + c) % 18446744073709551616 : Nat) : Int) := by
  have e0 : IntKind.u64.wrap ((v : Int) * 2 ^ (min (8 : Int).toNat IntKind.u64.bits)) = ((v * 256 % 18446744073709551616 : Nat) : Int) := by
    have : (2 : Int) ^ (min (8 : Int).toNat IntKind.u64.bits) = 256 := by decide
    rw [this]
    simp only [IntKind.wrap, IntKind.bits, IntKind.signed, Bool.false_and, Bool.false_eq_true, if_false]
    omega
  have e1 : IntKind.u64.wrap (c : Int) = (c : Int) := u64w c (by omega)
  have hm : v * 256 % 18446744073709551616 < 18446744073709551616 := Nat.mod_lt _ (by decide)
  rw [e0, e1, BitVec.toNat_or, show (BitVec.ofInt IntKind.u64.bits ((v * 256 % 18446744073709551616 : Nat) : Int)).toNat = v * 256 % 18446744073709551616 by (simp [IntKind.bits]; omega), show (BitVec.ofInt IntKind.u64.bits (c : Int)).toNat = c by simp [IntKind.bits]; omega]
  have h2 : v * 256 % 18446744073709551616 = 2 ^ 8 * (v % 72057594037927936) := by omega
  have h3 := Nat.two_pow_add_eq_or_of_lt (i := 8) (b := c) (by omega) (v % 72057594037927936)
  rw [h2, ← h3]
  have h4 : 2 ^ 8 * (v % 72057594037927936) + c = (v * 256 + c) % 18446744073709551616 := by omega
  rw [h4]
  exact u64w _ (Nat.mod_lt _ (by decide))

set_option maxHeartbeats 4000000 in
theorem rnum_ac [GlobF Try.prog] {h : List AObj} {r : Nat} {b : List UInt8} {bad : Bool} (hr : h[r]? = some (rdC b bad)) :
    AC Try.prog 105 [.bp r 0] h (fun v h' => v = .sc (.int .i64 (numV (takeV b bad 8))) ∧ h' = h.set r (rdC (takeB b bad 8) (takeX b bad 8))) := by
  have hl : (takeV b bad 8).length = 8 := by
    unfold takeV takeX
    split
    · simp
    · rename_i h; simp at h; simp; omega
  refine AC.of_body Try.func105 Try.ntmps105 rfl rfl rfl ?_
  repeat' first
    | (apply p1 (hd := rfl); case hop => first | (apply D_move; rfl) | (apply D_assign; rfl) | (apply D_load1; rfl) | (apply D_int; rfl; rfl; rfl) | (apply D_lenM; rfl) | (apply D_len_sl; rfl) | (apply D_loadW; rfl; rfl) | (apply D_loadA; rfl; rfl) | (apply D_conv_int; rfl) | (apply D_len_nil; rfl) | (apply D_idxAn; rfl; rfl; (first | omega | (simp; done))) | (apply D_idxA; rfl; rfl; omega; (first | omega | (simp; done) | (simp; omega))) | (apply D_idxA0; rfl; rfl; omega; (first | omega | (simp; done) | (simp; omega))) | (apply D_shl; rfl; rfl; first | omega | ((repeat rw [w64 _ (by omega) (by omega)]); omega) | decide))
    | refine W_seq ?_
    | refine W_region ?_
    | (refine idC ?_; first | refine c1 rfl ?_ | refine c0 rfl ?_ | refine cs rfl (fun _ => ?_) (fun _ => ?_))
    | refine WL_nil ?_
    | refine tn ?_
    | refine tr ?_
    | refine br ?_
    | refine bn ?_
    | refine te ?_
    | (refine idB ?_; first | refine bh rfl ?_ | refine bm rfl ?_)
    | refine W_skip ?_
    | refine W_block ?_
    | refine W_exit ?_
    | refine W_ret ?_
    | refine W_label ?_
    | refine W_scope ?_
    | refine sn ?_
    | refine sr ?_
    | refine se ?_
    | refine Le.bool ?_
    | refine Le.int ?_
    | refine Le.str ?_
    | (refine m_call (take_ac hr (by decide)) rfl rfl rfl ?_; rintro _ _ ⟨rfl, rfl⟩)
  generalize takeV b bad 8 = l at *
  refine W_loopL (X := Nat) (fun i => [(3, .sc (.int .u64 (numR (l.take i) : Int))), (7, .sl none 1 (l.map byteC)), (8, .sc (.int .i64 (l.length : Int))), (9, .sc (.int .i64 (i : Int)))]) (fun _ => h.set r (rdC (takeB b bad 8) (takeX b bad 8)))
    (fun i => i ≤ 8) (fun i => 8 - i) 0 (by omega) ⟨rfl, rfl, rfl, rfl, trivial⟩ rfl ?_
  intro i hi
  repeat' first
    | (apply p1 (hd := rfl); case hop => first | (apply D_move; rfl) | (apply D_assign; rfl) | (apply D_load1; rfl) | (apply D_int; rfl; rfl; rfl) | (apply D_lenM; rfl) | (apply D_len_sl; rfl) | (apply D_loadW; rfl; rfl) | (apply D_loadA; rfl; rfl) | (apply D_conv_int; rfl) | (apply D_len_nil; rfl) | (apply D_idxAn; rfl; rfl; (first | omega | (simp; done))) | (apply D_idxA; rfl; rfl; omega; (first | omega | (simp; done) | (simp; omega))) | (apply D_idxA0; rfl; rfl; omega; (first | omega | (simp; done) | (simp; omega))) | (apply D_shl; rfl; rfl; first | omega | ((repeat rw [w64 _ (by omega) (by omega)]); omega) | decide))
    | refine W_seq ?_
    | refine W_region ?_
    | (refine idC ?_; first | refine c1 rfl ?_ | refine c0 rfl ?_ | refine cs rfl (fun _ => ?_) (fun _ => ?_))
    | refine WL_nil ?_
    | refine tn ?_
    | refine tr ?_
    | refine br ?_
    | refine bn ?_
    | refine te ?_
    | (refine idB ?_; first | refine bh rfl ?_ | refine bm rfl ?_)
    | refine W_skip ?_
    | refine W_block ?_
    | refine W_exit ?_
    | refine W_ret ?_
    | refine W_label ?_
    | refine W_scope ?_
    | refine sn ?_
    | refine sr ?_
    | refine se ?_
    | refine Le.bool ?_
    | refine Le.int ?_
    | refine Le.str ?_
  · rename_i h1
    refine ⟨rfl, i + 1, by omega, by omega, ⟨ieq ?_, rfl, rfl, ieq (wsucc i (by omega)), trivial⟩, rfl⟩
    rw [numR_succ l i (by omega)]
    exact shor _ _ (numR_lt _) (UInt8.toNat_lt _)
  · rename_i h1
    have : i = l.length := by omega
    subst this
    rw [List.take_length] at *
    refine retK1 (.inl rfl) rfl rfl (ResO.tmp rfl) ⟨?_, rfl⟩
    have hV := numR_lt l
    rw [BitVec.toNat_xor, show (BitVec.ofInt IntKind.u64.bits (numR l : Int)).toNat = numR l by simp [IntKind.bits]; omega, show (BitVec.ofInt IntKind.u64.bits 9223372036854775808).toNat = 9223372036854775808 by decide, xor63 _ hV, u64w _ (Nat.mod_lt _ (by decide))]
    rfl
end Go.Proofs

/- Contracts of keys' reader: texts. -/
namespace Go.Proofs
open Go.AL
attribute [local irreducible] Go.AL.W Go.AL.WL Go.AL.WD Go.AL.POp Go.AL.PPOp Go.AL.POpS Go.AL.PC Go.AL.AC Go.AL.YW Go.AL.Ret Go.AL.Le Go.AL.thn Go.AL.inBlk Go.AL.scp

theorem sa {α : Type} {h l : List α} {r : Nat} {a b : α} (hlt : r < h.length) : (h.set r a ++ l).set r b = h.set r b ++ l := by simp [List.set_append, hlt]
theorem sl1 {α : Type} {h : List α} {r : Nat} {a t t' : α} : (h.set r a ++ [t]).set h.length t' = h.set r a ++ [t'] := by simp [List.set_append]
/-- A text read: its bytes, those behind it, and whether it was none. -/
def rdT : List UInt8 → List UInt8 × List UInt8 × Bool
  | [] => ([], [], true)
  | [c] => (if c = 0 then [] else [c], [], true)
  | c :: x :: b => if c = 0 then (if x = 1 then ([], b, false) else if x = 255 then (let p := rdT b; (0 :: p.1, p.2)) else ([], b, true)) else (let p := rdT (x :: b); (c :: p.1, p.2))
def rdTx (b : List UInt8) (bad : Bool) : List UInt8 × List UInt8 × Bool := if bad then ([], b, true) else rdT b
theorem rdT_cons (c : UInt8) (b : List UInt8) (h : c ≠ 0) : rdT (c :: b) = (c :: (rdT b).1, (rdT b).2) := by
  cases b with
  | nil => simp [rdT, h]
  | cons x b => simp [rdT, h]

/-- Where a reading of a text stands: what is read, and what is behind it. -/
def rdI (b0 : List UInt8) (bad0 : Bool) (x : List UInt8 × List UInt8 × Bool) : Prop :=
  if x.2.2 then rdTx b0 bad0 = x else rdTx b0 bad0 = (x.1 ++ (rdT x.2.1).1, (rdT x.2.1).2)
def rdM (x : List UInt8 × List UInt8 × Bool) : Nat := 2 * x.2.1.length + (if x.2.2 then 0 else 1)

theorem take1c_ac [GlobF Try.prog] {h : List AObj} {r : Nat} {c : UInt8} {t : List UInt8} (hr : h[r]? = some (rdC (c :: t) false)) :
    AC Try.prog 119 [.bp r 0, .sc (.int .i64 1)] h (fun v h' => v = .sl none 1 [byteC c] ∧ h' = h.set r (rdC t false)) := by
  have := take_ac (n := 1) hr (by decide)
  have hx : takeX (c :: t) false 1 = false := by simp [takeX]
  rw [takeV, takeB, hx, if_neg Bool.false_ne_true, if_neg Bool.false_ne_true] at this
  exact this
theorem take1n_ac [GlobF Try.prog] {h : List AObj} {r : Nat} (hr : h[r]? = some (rdC [] false)) :
    AC Try.prog 119 [.bp r 0, .sc (.int .i64 1)] h (fun v h' => v = .sl none 1 [byteC 0] ∧ h' = h.set r (rdC [] true)) := take_ac (n := 1) hr (by decide)
theorem take1b_ac [GlobF Try.prog] {h : List AObj} {r : Nat} {b : List UInt8} (hr : h[r]? = some (rdC b true)) :
    AC Try.prog 119 [.bp r 0, .sc (.int .i64 1)] h (fun v h' => v = .sl none 1 [byteC 0] ∧ h' = h.set r (rdC b true)) := take_ac (n := 1) hr (by decide)

set_option maxHeartbeats 4000000 in
theorem rtext_ac0 [GlobF Try.prog] {h : List AObj} {r : Nat} {b : List UInt8} {bad : Bool} (hr : h[r]? = some (rdC b bad)) (hb : b.length < 549755813888) :
    AC Try.prog 120 [.bp r 0] h (fun v h' => v = str (rdTx b bad).1 ∧ ∃ n, h' = h.set r (rdC (rdTx b bad).2.1 (rdTx b bad).2.2) ++ [.tail n 1 5]) := by
  have hlt := get_lt hr
  refine AC.of_body Try.func120 Try.ntmps120 rfl rfl rfl ?_
  repeat' first
    | (apply p1 (hd := rfl); case hop => first | (apply D_move; rfl) | (apply D_assign; rfl) | (apply D_load1; rfl) | (apply D_fld; rfl) | (apply D_int; rfl; rfl; rfl) | (apply D_not; rfl) | (apply D_loadW; rfl; rfl) | (apply D_loadA; rfl; rfl) | (apply D_b2s; rfl) | (apply D_idxAn; rfl; rfl; (first | omega | (simp; done))) | (apply D_idxA; rfl; rfl; omega; (first | omega | (simp; done) | (simp; omega))) | (apply D_idxA0; rfl; rfl; omega; (first | omega | (simp; done) | (simp; omega))) | (apply D_lit; rfl; rfl; rfl; rfl) | exact D_fldB rfl | (apply D_nilB; rfl) | (apply D_nilE; rfl))
    | refine W_seq ?_
    | refine W_region ?_
    | (refine idC ?_; first | refine c1 rfl ?_ | refine c0 rfl ?_ | refine cs rfl (fun _ => ?_) (fun _ => ?_))
    | refine WL_nil ?_
    | refine tn ?_
    | refine tr ?_
    | refine br ?_
    | refine bn ?_
    | refine te ?_
    | (refine idB ?_; first | refine bh rfl ?_ | refine bm rfl ?_)
    | refine W_skip ?_
    | refine W_block ?_
    | refine W_exit ?_
    | refine W_ret ?_
    | refine W_label ?_
    | refine W_scope ?_
    | refine sn ?_
    | refine sr ?_
    | refine se ?_
    | (refine idLd ?_; first | refine p1L (D_loadB1 rfl rfl rfl) rfl ?_ | refine p1L (D_loadBA rfl rfl rfl) rfl ?_ | refine p1L (D_loadB1 rfl (by (repeat first | assumption | exact get_last | (refine get_last2 ?_; focus (simp; done)) | apply get_set | apply get_app | (apply get_ne; focus omega) | (apply get_ne; focus (simp only [List.length_set, List.length_append, List.length_cons, List.length_nil]; omega))); done) (by rfl)) rfl ?_ | refine p1L (D_loadBA rfl (by (repeat first | assumption | exact get_last | (refine get_last2 ?_; focus (simp; done)) | apply get_set | apply get_app | (apply get_ne; focus omega) | (apply get_ne; focus (simp only [List.length_set, List.length_append, List.length_cons, List.length_nil]; omega))); done) (by rfl)) rfl ?_)
    | (refine idS ?_; first | refine pS (S_store rfl rfl rfl rfl rfl rfl rfl) ?_ | refine pS (S_store rfl rfl rfl (by (repeat first | assumption | exact get_last | (refine get_last2 ?_; focus (simp; done)) | apply get_set | apply get_app | (apply get_ne; focus omega) | (apply get_ne; focus (simp only [List.length_set, List.length_append, List.length_cons, List.length_nil]; omega))); done) (by rfl) (by rfl) (by rfl)) ?_)
    | refine Le.bool ?_
    | refine Le.int ?_
    | refine Le.str ?_
    | (refine idAp ?_; refine m_app rfl rfl (by first | rfl | assumption | exact get_set (by assumption) | exact get_set (get_set (by assumption)) | exact get_set (get_set (get_set (by assumption))) | ((repeat first | assumption | exact get_last | (refine get_last2 ?_; focus (simp; done)) | apply get_set | apply get_app | (apply get_ne; focus omega)); done)) ?_ rfl rfl ?_ ?_ rfl ?_; (first | rfl | focus (simp only [List.length_map, List.length_append, List.length_cons, List.length_nil]; omega) | focus (simp; done) | focus (simp; omega)); (first | focus (simp only [List.length_map, List.length_append, List.length_cons, List.length_nil]; omega) | focus (simp; done) | focus (simp; omega)); (first | focus (simp only [List.length_map, List.length_append, List.length_cons, List.length_nil]; omega) | focus (simp; done) | focus (simp; omega)))
    | (refine idAp ?_; refine m_appB rfl rfl rfl (by first | rfl | assumption | exact get_set (by assumption) | exact get_set (get_set (by assumption)) | exact get_set (get_set (get_set (by assumption))) | ((repeat first | assumption | exact get_last | (refine get_last2 ?_; focus (simp; done)) | apply get_set | apply get_app | (apply get_ne; focus omega)); done)) ?_ rfl rfl ?_ ?_ rfl ?_; (first | rfl | focus (simp only [List.length_map, List.length_append, List.length_cons, List.length_nil]; omega) | focus (simp; done) | focus (simp; omega)); (first | focus (simp only [List.length_map, List.length_append, List.length_cons, List.length_nil]; omega) | focus (simp; done) | focus (simp; omega)); (first | focus (simp only [List.length_map, List.length_append, List.length_cons, List.length_nil]; omega) | focus (simp; done) | focus (simp; omega)))
  refine W_adopt 3 1 5 rfl ?_
  refine W_loopL (X := List UInt8 × List UInt8 × Bool) (fun x => [(0, .bp r 0), (3, .sl (some h.length) 1 (x.1.map byteC))]) (fun x => h.set r (rdC x.2.1 x.2.2) ++ [.tail x.1.length 1 5])
    (fun x => rdI b bad x ∧ x.1.length + x.2.1.length ≤ b.length) rdM ([], b, bad) ⟨by simp [rdI, rdTx]; cases bad <;> simp, by simp⟩ ⟨rfl, rfl, trivial⟩ (by
      show h.set r (rdC b bad) ++ _ = _
      rw [set_self hr]; rfl) ?_
  rintro ⟨dn, rest, bd⟩ ⟨hI, hlen⟩
  simp only at hI hlen
  repeat' first
    | (apply p1 (hd := rfl); case hop => first | (apply D_move; rfl) | (apply D_assign; rfl) | (apply D_load1; rfl) | (apply D_fld; rfl) | (apply D_int; rfl; rfl; rfl) | (apply D_not; rfl) | (apply D_loadW; rfl; rfl) | (apply D_loadA; rfl; rfl) | (apply D_b2s; rfl) | (apply D_idxAn; rfl; rfl; (first | omega | (simp; done))) | (apply D_idxA; rfl; rfl; omega; (first | omega | (simp; done) | (simp; omega))) | (apply D_idxA0; rfl; rfl; omega; (first | omega | (simp; done) | (simp; omega))) | (apply D_lit; rfl; rfl; rfl; rfl) | exact D_fldB rfl | (apply D_nilB; rfl) | (apply D_nilE; rfl))
    | refine W_seq ?_
    | refine W_region ?_
    | (refine idC ?_; first | refine c1 rfl ?_ | refine c0 rfl ?_ | refine cs rfl (fun _ => ?_) (fun _ => ?_))
    | refine WL_nil ?_
    | refine tn ?_
    | refine tr ?_
    | refine br ?_
    | refine bn ?_
    | refine te ?_
    | (refine idB ?_; first | refine bh rfl ?_ | refine bm rfl ?_)
    | refine W_skip ?_
    | refine W_block ?_
    | refine W_exit ?_
    | refine W_ret ?_
    | refine W_label ?_
    | refine W_scope ?_
    | refine sn ?_
    | refine sr ?_
    | refine se ?_
    | (refine idLd ?_; first | refine p1L (D_loadB1 rfl rfl rfl) rfl ?_ | refine p1L (D_loadBA rfl rfl rfl) rfl ?_ | refine p1L (D_loadB1 rfl (by (repeat first | assumption | exact get_last | (refine get_last2 ?_; focus (simp; done)) | apply get_set | apply get_app | (apply get_ne; focus omega) | (apply get_ne; focus (simp only [List.length_set, List.length_append, List.length_cons, List.length_nil]; omega))); done) (by rfl)) rfl ?_ | refine p1L (D_loadBA rfl (by (repeat first | assumption | exact get_last | (refine get_last2 ?_; focus (simp; done)) | apply get_set | apply get_app | (apply get_ne; focus omega) | (apply get_ne; focus (simp only [List.length_set, List.length_append, List.length_cons, List.length_nil]; omega))); done) (by rfl)) rfl ?_)
    | (refine idS ?_; first | refine pS (S_store rfl rfl rfl rfl rfl rfl rfl) ?_ | refine pS (S_store rfl rfl rfl (by (repeat first | assumption | exact get_last | (refine get_last2 ?_; focus (simp; done)) | apply get_set | apply get_app | (apply get_ne; focus omega) | (apply get_ne; focus (simp only [List.length_set, List.length_append, List.length_cons, List.length_nil]; omega))); done) (by rfl) (by rfl) (by rfl)) ?_)
    | refine Le.bool ?_
    | refine Le.int ?_
    | refine Le.str ?_
    | (refine idAp ?_; refine m_app rfl rfl (by first | rfl | assumption | exact get_set (by assumption) | exact get_set (get_set (by assumption)) | exact get_set (get_set (get_set (by assumption))) | ((repeat first | assumption | exact get_last | (refine get_last2 ?_; focus (simp; done)) | apply get_set | apply get_app | (apply get_ne; focus omega)); done)) ?_ rfl rfl ?_ ?_ rfl ?_; (first | rfl | focus (simp only [List.length_map, List.length_append, List.length_cons, List.length_nil]; omega) | focus (simp; done) | focus (simp; omega)); (first | focus (simp only [List.length_map, List.length_append, List.length_cons, List.length_nil]; omega) | focus (simp; done) | focus (simp; omega)); (first | focus (simp only [List.length_map, List.length_append, List.length_cons, List.length_nil]; omega) | focus (simp; done) | focus (simp; omega)))
    | (refine idAp ?_; refine m_appB rfl rfl rfl (by first | rfl | assumption | exact get_set (by assumption) | exact get_set (get_set (by assumption)) | exact get_set (get_set (get_set (by assumption))) | ((repeat first | assumption | exact get_last | (refine get_last2 ?_; focus (simp; done)) | apply get_set | apply get_app | (apply get_ne; focus omega)); done)) ?_ rfl rfl ?_ ?_ rfl ?_; (first | rfl | focus (simp only [List.length_map, List.length_append, List.length_cons, List.length_nil]; omega) | focus (simp; done) | focus (simp; omega)); (first | focus (simp only [List.length_map, List.length_append, List.length_cons, List.length_nil]; omega) | focus (simp; done) | focus (simp; omega)); (first | focus (simp only [List.length_map, List.length_append, List.length_cons, List.length_nil]; omega) | focus (simp; done) | focus (simp; omega)))
  · rename_i hbd
    simp only at hbd
    subst hbd
    have hd : dn.length ≤ b.length := by omega
    rcases rest with _ | ⟨c, _ | ⟨x, t⟩⟩
    · repeat' first
        | (apply p1 (hd := rfl); case hop => first | (apply D_move; rfl) | (apply D_assign; rfl) | (apply D_load1; rfl) | (apply D_fld; rfl) | (apply D_int; rfl; rfl; rfl) | (apply D_not; rfl) | (apply D_loadW; rfl; rfl) | (apply D_loadA; rfl; rfl) | (apply D_b2s; rfl) | (apply D_idxAn; rfl; rfl; (first | omega | (simp; done))) | (apply D_idxA; rfl; rfl; omega; (first | omega | (simp; done) | (simp; omega))) | (apply D_idxA0; rfl; rfl; omega; (first | omega | (simp; done) | (simp; omega))) | (apply D_lit; rfl; rfl; rfl; rfl) | exact D_fldB rfl | (apply D_nilB; rfl) | (apply D_nilE; rfl))
        | refine W_seq ?_
        | refine W_region ?_
        | (refine idC ?_; first | refine c1 rfl ?_ | refine c0 rfl ?_ | refine cs rfl (fun _ => ?_) (fun _ => ?_))
        | refine WL_nil ?_
        | refine tn ?_
        | refine tr ?_
        | refine br ?_
        | refine bn ?_
        | refine te ?_
        | (refine idB ?_; first | refine bh rfl ?_ | refine bm rfl ?_)
        | refine W_skip ?_
        | refine W_block ?_
        | refine W_exit ?_
        | refine W_ret ?_
        | refine W_label ?_
        | refine W_scope ?_
        | refine sn ?_
        | refine sr ?_
        | refine se ?_
        | (refine idLd ?_; first | refine p1L (D_loadB1 rfl rfl rfl) rfl ?_ | refine p1L (D_loadBA rfl rfl rfl) rfl ?_ | refine p1L (D_loadB1 rfl (by (repeat first | assumption | exact get_last | (refine get_last2 ?_; focus (simp; done)) | apply get_set | apply get_app | (apply get_ne; focus omega) | (apply get_ne; focus (simp only [List.length_set, List.length_append, List.length_cons, List.length_nil]; omega))); done) (by rfl)) rfl ?_ | refine p1L (D_loadBA rfl (by (repeat first | assumption | exact get_last | (refine get_last2 ?_; focus (simp; done)) | apply get_set | apply get_app | (apply get_ne; focus omega) | (apply get_ne; focus (simp only [List.length_set, List.length_append, List.length_cons, List.length_nil]; omega))); done) (by rfl)) rfl ?_)
        | (refine idS ?_; first | refine pS (S_store rfl rfl rfl rfl rfl rfl rfl) ?_ | refine pS (S_store rfl rfl rfl (by (repeat first | assumption | exact get_last | (refine get_last2 ?_; focus (simp; done)) | apply get_set | apply get_app | (apply get_ne; focus omega) | (apply get_ne; focus (simp only [List.length_set, List.length_append, List.length_cons, List.length_nil]; omega))); done) (by rfl) (by rfl) (by rfl)) ?_)
        | refine Le.bool ?_
        | refine Le.int ?_
        | refine Le.str ?_
        | (refine idAp ?_; refine m_app rfl rfl (by first | rfl | assumption | exact get_set (by assumption) | exact get_set (get_set (by assumption)) | exact get_set (get_set (get_set (by assumption))) | ((repeat first | assumption | exact get_last | (refine get_last2 ?_; focus (simp; done)) | apply get_set | apply get_app | (apply get_ne; focus omega)); done)) ?_ rfl rfl ?_ ?_ rfl ?_; (first | rfl | focus (simp only [List.length_map, List.length_append, List.length_cons, List.length_nil]; omega) | focus (simp; done) | focus (simp; omega)); (first | focus (simp only [List.length_map, List.length_append, List.length_cons, List.length_nil]; omega) | focus (simp; done) | focus (simp; omega)); (first | focus (simp only [List.length_map, List.length_append, List.length_cons, List.length_nil]; omega) | focus (simp; done) | focus (simp; omega)))
        | (refine idAp ?_; refine m_appB rfl rfl rfl (by first | rfl | assumption | exact get_set (by assumption) | exact get_set (get_set (by assumption)) | exact get_set (get_set (get_set (by assumption))) | ((repeat first | assumption | exact get_last | (refine get_last2 ?_; focus (simp; done)) | apply get_set | apply get_app | (apply get_ne; focus omega)); done)) ?_ rfl rfl ?_ ?_ rfl ?_; (first | rfl | focus (simp only [List.length_map, List.length_append, List.length_cons, List.length_nil]; omega) | focus (simp; done) | focus (simp; omega)); (first | focus (simp only [List.length_map, List.length_append, List.length_cons, List.length_nil]; omega) | focus (simp; done) | focus (simp; omega)); (first | focus (simp only [List.length_map, List.length_append, List.length_cons, List.length_nil]; omega) | focus (simp; done) | focus (simp; omega)))
        | (refine m_call (d := 11) (take1n_ac (by (repeat first | assumption | apply get_set | apply get_app); done)) rfl rfl rfl ?_; rintro _ _ ⟨rfl, rfl⟩)
        | (refine m_call (d := 21) (take1b_ac (by (repeat first | assumption | apply get_set | apply get_app); done)) rfl rfl rfl ?_; rintro _ _ ⟨rfl, rfl⟩)
      all_goals first
        | (exfalso; rename_i hx _ _; exact absurd rfl hx)
        | (exfalso; rename_i hx; exact absurd rfl hx)
        | (exfalso; rename_i hx; exact absurd hx (by decide))
        | skip
      refine ⟨rfl, (dn, [], true), ⟨?_, by simpa using hd⟩, by simp [rdM], ⟨rfl, rfl, trivial⟩, ?_⟩
      · simpa [rdI, rdT] using hI
      · simp only [sa hlt, sl1]; rfl
    · repeat' first
        | (apply p1 (hd := rfl); case hop => first | (apply D_move; rfl) | (apply D_assign; rfl) | (apply D_load1; rfl) | (apply D_fld; rfl) | (apply D_int; rfl; rfl; rfl) | (apply D_not; rfl) | (apply D_loadW; rfl; rfl) | (apply D_loadA; rfl; rfl) | (apply D_b2s; rfl) | (apply D_idxAn; rfl; rfl; (first | omega | (simp; done))) | (apply D_idxA; rfl; rfl; omega; (first | omega | (simp; done) | (simp; omega))) | (apply D_idxA0; rfl; rfl; omega; (first | omega | (simp; done) | (simp; omega))) | (apply D_lit; rfl; rfl; rfl; rfl) | exact D_fldB rfl | (apply D_nilB; rfl) | (apply D_nilE; rfl))
        | refine W_seq ?_
        | refine W_region ?_
        | (refine idC ?_; first | refine c1 rfl ?_ | refine c0 rfl ?_ | refine cs rfl (fun _ => ?_) (fun _ => ?_))
        | refine WL_nil ?_
        | refine tn ?_
        | refine tr ?_
        | refine br ?_
        | refine bn ?_
        | refine te ?_
        | (refine idB ?_; first | refine bh rfl ?_ | refine bm rfl ?_)
        | refine W_skip ?_
        | refine W_block ?_
        | refine W_exit ?_
        | refine W_ret ?_
        | refine W_label ?_
        | refine W_scope ?_
        | refine sn ?_
        | refine sr ?_
        | refine se ?_
        | (refine idLd ?_; first | refine p1L (D_loadB1 rfl rfl rfl) rfl ?_ | refine p1L (D_loadBA rfl rfl rfl) rfl ?_ | refine p1L (D_loadB1 rfl (by (repeat first | assumption | exact get_last | (refine get_last2 ?_; focus (simp; done)) | apply get_set | apply get_app | (apply get_ne; focus omega) | (apply get_ne; focus (simp only [List.length_set, List.length_append, List.length_cons, List.length_nil]; omega))); done) (by rfl)) rfl ?_ | refine p1L (D_loadBA rfl (by (repeat first | assumption | exact get_last | (refine get_last2 ?_; focus (simp; done)) | apply get_set | apply get_app | (apply get_ne; focus omega) | (apply get_ne; focus (simp only [List.length_set, List.length_append, List.length_cons, List.length_nil]; omega))); done) (by rfl)) rfl ?_)
        | (refine idS ?_; first | refine pS (S_store rfl rfl rfl rfl rfl rfl rfl) ?_ | refine pS (S_store rfl rfl rfl (by (repeat first | assumption | exact get_last | (refine get_last2 ?_; focus (simp; done)) | apply get_set | apply get_app | (apply get_ne; focus omega) | (apply get_ne; focus (simp only [List.length_set, List.length_append, List.length_cons, List.length_nil]; omega))); done) (by rfl) (by rfl) (by rfl)) ?_)
        | refine Le.bool ?_
        | refine Le.int ?_
        | refine Le.str ?_
        | (refine idAp ?_; refine m_app rfl rfl (by first | rfl | assumption | exact get_set (by assumption) | exact get_set (get_set (by assumption)) | exact get_set (get_set (get_set (by assumption))) | ((repeat first | assumption | exact get_last | (refine get_last2 ?_; focus (simp; done)) | apply get_set | apply get_app | (apply get_ne; focus omega)); done)) ?_ rfl rfl ?_ ?_ rfl ?_; (first | rfl | focus (simp only [List.length_map, List.length_append, List.length_cons, List.length_nil]; omega) | focus (simp; done) | focus (simp; omega)); (first | focus (simp only [List.length_map, List.length_append, List.length_cons, List.length_nil]; omega) | focus (simp; done) | focus (simp; omega)); (first | focus (simp only [List.length_map, List.length_append, List.length_cons, List.length_nil]; omega) | focus (simp; done) | focus (simp; omega)))
        | (refine idAp ?_; refine m_appB rfl rfl rfl (by first | rfl | assumption | exact get_set (by assumption) | exact get_set (get_set (by assumption)) | exact get_set (get_set (get_set (by assumption))) | ((repeat first | assumption | exact get_last | (refine get_last2 ?_; focus (simp; done)) | apply get_set | apply get_app | (apply get_ne; focus omega)); done)) ?_ rfl rfl ?_ ?_ rfl ?_; (first | rfl | focus (simp only [List.length_map, List.length_append, List.length_cons, List.length_nil]; omega) | focus (simp; done) | focus (simp; omega)); (first | focus (simp only [List.length_map, List.length_append, List.length_cons, List.length_nil]; omega) | focus (simp; done) | focus (simp; omega)); (first | focus (simp only [List.length_map, List.length_append, List.length_cons, List.length_nil]; omega) | focus (simp; done) | focus (simp; omega)))
        | (refine m_call (d := 11) (take1c_ac (by (repeat first | assumption | apply get_set | apply get_app); done)) rfl rfl rfl ?_; rintro _ _ ⟨rfl, rfl⟩)
        | (refine m_call (d := 21) (take1n_ac (by (repeat first | assumption | apply get_set | apply get_app); done)) rfl rfl rfl ?_; rintro _ _ ⟨rfl, rfl⟩)
      all_goals first
        | (exfalso; rename_i hx _ _; exact absurd rfl hx)
        | (exfalso; rename_i hx; exact absurd rfl hx)
        | (exfalso; rename_i hx; exact absurd hx (by decide))
        | skip
      · rename_i h1
        have h0 := u8nz h1
        refine ⟨rfl, (dn ++ [c], [], false), ⟨?_, by simpa using hlen⟩, by simp [rdM], ⟨rfl, sleq (by simp), trivial⟩, ?_⟩
        · simp only [rdI, rdT_cons c [] h0] at hI ⊢; simpa using hI
        · simp only [sa hlt, sl1]; simp
      · rename_i h1 h2 h3
        have h0 := u8z h1
        refine ⟨rfl, (dn, [], true), ⟨?_, by simpa using hd⟩, by simp [rdM], ⟨rfl, rfl, trivial⟩, ?_⟩
        · simpa [rdI, rdT, h0] using hI
        · simp only [sa hlt, sl1]; rfl
    · repeat' first
        | (apply p1 (hd := rfl); case hop => first | (apply D_move; rfl) | (apply D_assign; rfl) | (apply D_load1; rfl) | (apply D_fld; rfl) | (apply D_int; rfl; rfl; rfl) | (apply D_not; rfl) | (apply D_loadW; rfl; rfl) | (apply D_loadA; rfl; rfl) | (apply D_b2s; rfl) | (apply D_idxAn; rfl; rfl; (first | omega | (simp; done))) | (apply D_idxA; rfl; rfl; omega; (first | omega | (simp; done) | (simp; omega))) | (apply D_idxA0; rfl; rfl; omega; (first | omega | (simp; done) | (simp; omega))) | (apply D_lit; rfl; rfl; rfl; rfl) | exact D_fldB rfl | (apply D_nilB; rfl) | (apply D_nilE; rfl))
        | refine W_seq ?_
        | refine W_region ?_
        | (refine idC ?_; first | refine c1 rfl ?_ | refine c0 rfl ?_ | refine cs rfl (fun _ => ?_) (fun _ => ?_))
        | refine WL_nil ?_
        | refine tn ?_
        | refine tr ?_
        | refine br ?_
        | refine bn ?_
        | refine te ?_
        | (refine idB ?_; first | refine bh rfl ?_ | refine bm rfl ?_)
        | refine W_skip ?_
        | refine W_block ?_
        | refine W_exit ?_
        | refine W_ret ?_
        | refine W_label ?_
        | refine W_scope ?_
        | refine sn ?_
        | refine sr ?_
        | refine se ?_
        | (refine idLd ?_; first | refine p1L (D_loadB1 rfl rfl rfl) rfl ?_ | refine p1L (D_loadBA rfl rfl rfl) rfl ?_ | refine p1L (D_loadB1 rfl (by (repeat first | assumption | exact get_last | (refine get_last2 ?_; focus (simp; done)) | apply get_set | apply get_app | (apply get_ne; focus omega) | (apply get_ne; focus (simp only [List.length_set, List.length_append, List.length_cons, List.length_nil]; omega))); done) (by rfl)) rfl ?_ | refine p1L (D_loadBA rfl (by (repeat first | assumption | exact get_last | (refine get_last2 ?_; focus (simp; done)) | apply get_set | apply get_app | (apply get_ne; focus omega) | (apply get_ne; focus (simp only [List.length_set, List.length_append, List.length_cons, List.length_nil]; omega))); done) (by rfl)) rfl ?_)
        | (refine idS ?_; first | refine pS (S_store rfl rfl rfl rfl rfl rfl rfl) ?_ | refine pS (S_store rfl rfl rfl (by (repeat first | assumption | exact get_last | (refine get_last2 ?_; focus (simp; done)) | apply get_set | apply get_app | (apply get_ne; focus omega) | (apply get_ne; focus (simp only [List.length_set, List.length_append, List.length_cons, List.length_nil]; omega))); done) (by rfl) (by rfl) (by rfl)) ?_)
        | refine Le.bool ?_
        | refine Le.int ?_
        | refine Le.str ?_
        | (refine idAp ?_; refine m_app rfl rfl (by first | rfl | assumption | exact get_set (by assumption) | exact get_set (get_set (by assumption)) | exact get_set (get_set (get_set (by assumption))) | ((repeat first | assumption | exact get_last | (refine get_last2 ?_; focus (simp; done)) | apply get_set | apply get_app | (apply get_ne; focus omega)); done)) ?_ rfl rfl ?_ ?_ rfl ?_; (first | rfl | focus (simp only [List.length_map, List.length_append, List.length_cons, List.length_nil]; omega) | focus (simp; done) | focus (simp; omega)); (first | focus (simp only [List.length_map, List.length_append, List.length_cons, List.length_nil]; omega) | focus (simp; done) | focus (simp; omega)); (first | focus (simp only [List.length_map, List.length_append, List.length_cons, List.length_nil]; omega) | focus (simp; done) | focus (simp; omega)))
        | (refine idAp ?_; refine m_appB rfl rfl rfl (by first | rfl | assumption | exact get_set (by assumption) | exact get_set (get_set (by assumption)) | exact get_set (get_set (get_set (by assumption))) | ((repeat first | assumption | exact get_last | (refine get_last2 ?_; focus (simp; done)) | apply get_set | apply get_app | (apply get_ne; focus omega)); done)) ?_ rfl rfl ?_ ?_ rfl ?_; (first | rfl | focus (simp only [List.length_map, List.length_append, List.length_cons, List.length_nil]; omega) | focus (simp; done) | focus (simp; omega)); (first | focus (simp only [List.length_map, List.length_append, List.length_cons, List.length_nil]; omega) | focus (simp; done) | focus (simp; omega)); (first | focus (simp only [List.length_map, List.length_append, List.length_cons, List.length_nil]; omega) | focus (simp; done) | focus (simp; omega)))
        | (refine m_call (d := 11) (take1c_ac (by (repeat first | assumption | apply get_set | apply get_app); done)) rfl rfl rfl ?_; rintro _ _ ⟨rfl, rfl⟩)
        | (refine m_call (d := 21) (take1c_ac (by (repeat first | assumption | apply get_set | apply get_app); done)) rfl rfl rfl ?_; rintro _ _ ⟨rfl, rfl⟩)
      all_goals first
        | (exfalso; rename_i hx _ _; exact absurd rfl hx)
        | (exfalso; rename_i hx; exact absurd rfl hx)
        | (exfalso; rename_i hx; exact absurd hx (by decide))
        | skip
      · rename_i h1
        have h0 := u8nz h1
        refine ⟨rfl, (dn ++ [c], x :: t, false), ⟨?_, by simp at hlen ⊢; omega⟩, by simp [rdM], ⟨rfl, sleq (by simp), trivial⟩, ?_⟩
        · simp only [rdI, rdT_cons c _ h0] at hI ⊢; simpa using hI
        · simp only [sa hlt, sl1]; simp
      · rename_i h1 h2
        have h0 := u8z h1
        have e : rdTx b bad = (dn, t, false) := by
          have : x = 1 := UInt8.toNat.inj (by show _ = 1; omega)
          subst this; subst h0
          simpa [rdI, rdT] using hI
        rw [e]
        refine retK1 (.inl rfl) rfl rfl (ResO.tmp rfl) ⟨rfl, dn.length, ?_⟩
        first | (simp only [sa hlt, sl1]; done) | (simp only [sa hlt, sl1]; rfl)
      · rename_i h1 h2 h3
        have h0 := u8z h1
        have e : x = 255 := UInt8.toNat.inj (by show _ = 255; omega)
        subst e; subst h0
        refine ⟨rfl, (dn ++ [0], t, false), ⟨?_, by simp at hlen ⊢; omega⟩, by simp [rdM]; omega, ⟨rfl, sleq (by simp), trivial⟩, ?_⟩
        · simp only [rdI, rdT] at hI ⊢; simpa using hI
        · simp only [sa hlt, sl1]; simp
      · rename_i h1 h2 h3
        have h0 := u8z h1
        have e1 : x ≠ 1 := fun e => h2 (by rw [e]; rfl)
        have e2 : x ≠ 255 := fun e => h3 (by rw [e]; rfl)
        subst h0
        refine ⟨rfl, (dn, t, true), ⟨?_, by simp at hlen ⊢; omega⟩, by simp [rdM]; omega, ⟨rfl, rfl, trivial⟩, ?_⟩
        · simp only [rdI, rdT, e1, e2] at hI ⊢; simpa using hI
        · simp only [sa hlt, sl1]; rfl
  · rename_i hbd
    simp only at hbd
    subst hbd
    have e : rdTx b bad = (dn, rest, true) := by simpa [rdI] using hI
    rw [e]
    exact retK1 (.inl rfl) rfl rfl (ResO.tmp rfl) ⟨rfl, _, rfl⟩

theorem BdH.set {h : List AObj} {r : Nat} {o : AObj} (hb : BdH h) (ho : BdO h.length o) : BdH (h.set r o) := fun q hq => by
  rw [List.length_set]
  rcases List.mem_or_eq_of_mem_set hq with h1 | h1
  · exact hb q h1
  · subst h1; exact ho
theorem bd_bytes (n : Nat) (l : List UInt8) : BdA n (bytesAV l) := .sl (fun t e => by cases e) fun e he x hx => by
  obtain ⟨c, _, rfl⟩ := List.mem_map.1 he
  simp at hx; subst hx; exact .sc _
theorem bd_rdC (n : Nat) (b : List UInt8) (bad : Bool) : BdO n (rdC b bad) := fun x hx => by
  simp only [List.mem_cons, List.not_mem_nil, or_false] at hx
  rcases hx with rfl | rfl
  · exact bd_bytes n b
  · exact .sc _

theorem rtext_ac [GlobF Try.prog] {h : List AObj} {r : Nat} {b : List UInt8} {bad : Bool} (hr : h[r]? = some (rdC b bad)) (hb : b.length < 549755813888) :
    AC Try.prog 120 [.bp r 0] h (fun v h' => v = str (rdTx b bad).1 ∧ h' = h.set r (rdC (rdTx b bad).2.1 (rdTx b bad).2.2)) := by
  refine AC.cut (rtext_ac0 hr hb) ?_
  rintro hbd v h' ⟨rfl, n, rfl⟩
  exact ⟨_, _, rfl, by simp, BdH.set hbd (bd_rdC _ _ _), .sc _, rfl, rfl⟩
end Go.Proofs
