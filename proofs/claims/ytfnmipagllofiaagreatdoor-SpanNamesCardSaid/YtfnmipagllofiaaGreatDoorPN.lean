/- The plain law of numerals: what a number's numeral says is the number. No program in sight. -/
import Derived.Lib.ParseIntBTie
import Derived.Lib.ItoaLen
namespace Go.Proofs
open Go.Lib
def dval (a : Nat) (l : List UInt8) : Nat := l.foldl (fun a c => a * 10 + (c.toNat - 48)) a
theorem dval_cons (a : Nat) (c : UInt8) (l : List UInt8) : dval a (c :: l) = dval (a * 10 + (c.toNat - 48)) l := by unfold dval; rw [List.foldl_cons]
theorem dval_snoc (a : Nat) (c : UInt8) (l : List UInt8) : dval a (l ++ [c]) = dval a l * 10 + (c.toNat - 48) := by unfold dval; rw [List.foldl_append, List.foldl_cons, List.foldl_nil]
theorem dval_ge (l : List UInt8) : ∀ a, a ≤ dval a l := by
  induction l with
  | nil => exact fun a => Nat.le_refl _
  | cons c l ih => intro a; rw [dval_cons]; have := ih (a * 10 + (c.toNat - 48)); omega
def isD (c : UInt8) : Prop := 48 ≤ c.toNat ∧ c.toNat ≤ 57
theorem dgt_toNat {m : Nat} (h : m < 10) : (UInt8.ofNat (48 + m)).toNat = 48 + m := by
  rw [UInt8.toNat_ofNat']; omega
theorem dec_digs (u : Nat) : ∀ c ∈ decDigits u, isD c := by
  induction u using Nat.strongRecOn with
  | _ u ih =>
    intro c hc
    rw [decDigits] at hc
    split at hc
    · rename_i h
      simp only [List.mem_cons, List.not_mem_nil, or_false] at hc
      subst hc; unfold isD; rw [dgt_toNat h]; omega
    · rename_i h
      simp only [List.mem_append, List.mem_cons, List.not_mem_nil, or_false] at hc
      rcases hc with hc | rfl
      · exact ih (u / 10) (by omega) c hc
      · unfold isD; rw [dgt_toNat (by omega)]; omega
theorem dec_val (u : Nat) : dval 0 (decDigits u) = u := by
  induction u using Nat.strongRecOn with
  | _ u ih =>
    rw [decDigits]
    split
    · rename_i h
      show 0 * 10 + ((UInt8.ofNat (48 + u)).toNat - 48) = u
      rw [dgt_toNat h]; omega
    · rename_i h
      rw [dval_snoc, ih (u / 10) (by omega), dgt_toNat (by omega)]; omega
theorem dec_ne (u : Nat) : decDigits u ≠ [] := fun h => by
  have := decDigits_length u
  have := nDigits_pos u
  rw [h] at *; simp at *; omega
theorem parse10 : ∀ (l : List UInt8) (a : Nat), (∀ c ∈ l, isD c) → dval a l < 18446744073709551616 → parseUint10 a l = .ok (dval a l)
  | [], a, _, _ => rfl
  | c :: l, a, h, hd => by
    have hc := h c (.head _)
    rw [dval_cons] at hd
    have := dval_ge l (a * 10 + (c.toNat - 48))
    unfold isD at hc
    rw [parseUint10, if_pos hc, if_neg (by omega), if_neg (by omega), dval_cons]
    exact parse10 l _ (fun c hc => h c (.tail _ hc)) hd
theorem mag_dec {u : Nat} (h : u < 18446744073709551616) : parseMag (decDigits u) = .ok u := by
  unfold parseMag
  rw [if_neg (dec_ne u), parse10 _ _ (dec_digs u) (by rw [dec_val]; exact h), dec_val]
theorem parse_itoa {n : Int} (h0 : -9223372036854775808 ≤ n) (h1 : n ≤ 9223372036854775807) : parseIntB 64 (itoa n) = .ok n := by
  rw [parseIntB_64]
  by_cases hneg : n < 0
  · obtain ⟨u, rfl⟩ : ∃ u : Nat, n = -(u : Int) := ⟨n.natAbs, by omega⟩
    rw [itoa_neg u (by omega), atoiAll_minus, mag_dec (by omega), signed, if_neg (by omega)]
  · obtain ⟨u, rfl⟩ : ∃ u : Nat, n = u := ⟨n.toNat, by omega⟩
    rw [itoa_nonneg]
    have hm := mag_dec (u := u) (by omega)
    cases hd : decDigits u with
    | nil => exact absurd hd (dec_ne u)
    | cons c r =>
      have hc := dec_digs u c (by rw [hd]; exact .head _)
      unfold isD at hc
      rw [atoiAll_plain c r (by omega) (by omega), ← hd, hm, signless, if_neg (by omega)]
theorem itoa_inj {n m : Int} (h0 : -9223372036854775808 ≤ n) (h1 : n ≤ 9223372036854775807) (g0 : -9223372036854775808 ≤ m) (g1 : m ≤ 9223372036854775807) (e : itoa n = itoa m) : n = m := by
  have a := parse_itoa h0 h1
  have b := parse_itoa g0 g1
  rw [e, b] at a; injection a with a; exact a.symm
def NumP (s : List UInt8) (n : Int) : Prop := -9223372036854775808 ≤ n ∧ n ≤ 9223372036854775807 ∧ itoa n = s
theorem NumP.inj {s : List UInt8} {n m : Int} (h : NumP s n) (h' : NumP s m) : n = m := itoa_inj h.1 h.2.1 h'.1 h'.2.1 (h.2.2.trans h'.2.2.symm)
end Go.Proofs
