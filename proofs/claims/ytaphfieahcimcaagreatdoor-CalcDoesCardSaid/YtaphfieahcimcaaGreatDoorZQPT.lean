/- The plain law of numerals: what a number's numeral says is the number. No program in sight. -/
import Derived.Lib.ParseIntBTie
import Derived.Lib.ItoaLen
import Derived.Test.YtaphfieahcimcaaGreatDoorZQT4
namespace Go.Proofs
open Go.Lib

def dval (a : Nat) (l : List UInt8) : Nat := l.foldl (fun a c => a * 10 + (c.toNat - 48)) a
theorem dval_cons (a : Nat) (c : UInt8) (l : List UInt8) : dval a (c :: l) = dval (a * 10 + (c.toNat - 48)) l := by unfold dval; rw [List.foldl_cons]
theorem dval_snoc (a : Nat) (c : UInt8) (l : List UInt8) : dval a (l ++ [c]) = dval a l * 10 + (c.toNat - 48) := by unfold dval; rw [List.foldl_append, List.foldl_cons, List.foldl_nil]
theorem dval_ge (l : List UInt8) : ∀ a, a ≤ dval a l := by
  induction l with
  | nil => exact fun a => Nat.le_refl _
  | cons c l ih => intro a; rw [dval_cons]; have := ih (a * 10 + (c.toNat - 48)); omega
def isD (c : UInt8) : Prop := 48 ≤ c.toNat ∧ c.toNat ≤ 57
theorem dgt_toNat {m : Nat} (h : m < 10) : (UInt8.ofNat (48 + m)).toNat = 48 + m := by
  rw [UInt8.toNat_ofNat']; omega
theorem dec_digs (u : Nat) : ∀ c ∈ decDigits u, isD c := by
  induction u using Nat.strongRecOn with
  | _ u ih =>
    intro c hc
    rw [decDigits] at hc
    split at hc
    · rename_i h
      simp only [List.mem_cons, List.not_mem_nil, or_false] at hc
      subst hc; unfold isD; rw [dgt_toNat h]; omega
    · rename_i h
      simp only [List.mem_append, List.mem_cons, List.not_mem_nil, or_false] at hc
      rcases hc with hc | rfl
      · exact ih (u / 10) (by omega) c hc
      · unfold isD; rw [dgt_toNat (by omega)]; omega
theorem dec_val (u : Nat) : dval 0 (decDigits u) = u := by
  induction u using Nat.strongRecOn with
  | _ u ih =>
    rw [decDigits]
    split
    · rename_i h
      show 0 * 10 + ((UInt8.ofNat (48 + u)).toNat - 48) = u
      rw [dgt_toNat h]; omega
    · rename_i h
      rw [dval_snoc, ih (u / 10) (by omega), dgt_toNat (by omega)]; omega
theorem dec_ne (u : Nat) : decDigits u ≠ [] := fun h => by
  have := decDigits_length u
  have := nDigits_pos u
  rw [h] at *; simp at *; omega
theorem parse10 : ∀ (l : List UInt8) (a : Nat), (∀ c ∈ l, isD c) → dval a l < 18446744073709551616 → parseUint10 a l = .ok (dval a l)
  | [], a, _, _ => rfl
  | c :: l, a, h, hd => by
    have hc := h c (.head _)
    rw [dval_cons] at hd
    have := dval_ge l (a * 10 + (c.toNat - 48))
    unfold isD at hc
    rw [parseUint10, if_pos hc, if_neg (by omega), if_neg (by omega), dval_cons]
    exact parse10 l _ (fun c hc => h c (.tail _ hc)) hd
theorem mag_dec {u : Nat} (h : u < 18446744073709551616) : parseMag (decDigits u) = .ok u := by
  unfold parseMag
  rw [if_neg (dec_ne u), parse10 _ _ (dec_digs u) (by rw [dec_val]; exact h), dec_val]
theorem parse_itoa {n : Int} (h0 : -9223372036854775808 ≤ n) (h1 : n ≤ 9223372036854775807) : parseIntB 64 (itoa n) = .ok n := by
  rw [parseIntB_64]
  by_cases hneg : n < 0
  · obtain ⟨u, rfl⟩ : ∃ u : Nat, n = -(u : Int) := ⟨n.natAbs, by omega⟩
    rw [itoa_neg u (by omega), atoiAll_minus, mag_dec (by omega), signed, if_neg (by omega)]
  · obtain ⟨u, rfl⟩ : ∃ u : Nat, n = u := ⟨n.toNat, by omega⟩
    rw [itoa_nonneg]
    have hm := mag_dec (u := u) (by omega)
    cases hd : decDigits u with
    | nil => exact absurd hd (dec_ne u)
    | cons c r =>
      have hc := dec_digs u c (by rw [hd]; exact .head _)
      unfold isD at hc
      rw [atoiAll_plain c r (by omega) (by omega), ← hd, hm, signless, if_neg (by omega)]
theorem itoa_inj {n m : Int} (h0 : -9223372036854775808 ≤ n) (h1 : n ≤ 9223372036854775807) (g0 : -9223372036854775808 ≤ m) (g1 : m ≤ 9223372036854775807) (e : itoa n = itoa m) : n = m := by
  have a := parse_itoa h0 h1
  have b := parse_itoa g0 g1
  rw [e, b] at a; injection a with a; exact a.symm

/-- A text is a number's numeral. -/
def NumP (s : List UInt8) (n : Int) : Prop := -9223372036854775808 ≤ n ∧ n ≤ 9223372036854775807 ∧ itoa n = s
theorem NumP.inj {s : List UInt8} {n m : Int} (h : NumP s n) (h' : NumP s m) : n = m := itoa_inj h.1 h.2.1 h'.1 h'.2.1 (h.2.2.trans h'.2.2.symm)
theorem itoa_head (n : Int) : ∃ c r, itoa n = c :: r ∧ (isD c ∨ c = 45) := by
  by_cases hneg : n < 0
  · obtain ⟨u, rfl⟩ : ∃ u : Nat, n = -(u : Int) := ⟨n.natAbs, by omega⟩
    exact ⟨45, _, itoa_neg u (by omega), .inr rfl⟩
  · obtain ⟨u, rfl⟩ : ∃ u : Nat, n = u := ⟨n.toNat, by omega⟩
    rw [itoa_nonneg]
    cases hd : decDigits u with
    | nil => exact absurd hd (dec_ne u)
    | cons c r => exact ⟨c, r, rfl, .inl (dec_digs u c (by rw [hd]; exact .head _))⟩
end Go.Proofs

/- The plain law of values' texts: what a value's text says is the value; the text of what a text says is the text. -/
namespace Go.Proofs
open Go.AL

theorem pB_iff (s : List UInt8) : pB s = true ↔ ∃ n, NumP s n := by
  constructor
  · intro h
    unfold pB at h
    simp only [Bool.and_eq_true, decide_eq_true_eq] at h
    exact ⟨pN s, (pN_rng s).1, (pN_rng s).2, h.2⟩
  · rintro ⟨n, h0, h1, rfl⟩
    have hp := parse_itoa h0 h1
    have e1 : pN (Lib.itoa n) = n := by unfold pN; rw [hp]
    have e2 : pOK (Lib.itoa n) = true := by unfold pOK; rw [hp]
    unfold pB; rw [e1, e2]; simp
theorem pN_of {s : List UInt8} {n : Int} (h : NumP s n) : pN s = n := by
  obtain ⟨h0, h1, rfl⟩ := h
  unfold pN; rw [parse_itoa h0 h1]
def numO (s : List UInt8) : Option Int := if pB s then some (pN s) else none
theorem numO_iff {s : List UInt8} {n : Int} : numO s = some n ↔ NumP s n := by
  unfold numO
  constructor
  · intro h
    split at h
    · rename_i hb
      cases h
      obtain ⟨m, hm⟩ := (pB_iff s).1 hb
      rw [pN_of hm]; exact hm
    · cases h
  · intro h
    rw [if_pos ((pB_iff s).2 ⟨n, h⟩), pN_of h]
theorem numO_none {s : List UInt8} (h : ∀ n, ¬ NumP s n) : numO s = none := by
  unfold numO
  rw [if_neg (fun hb => by obtain ⟨n, hn⟩ := (pB_iff s).1 hb; exact h n hn)]

def nib (c : UInt8) : Option Nat := if 48 ≤ c.toNat ∧ c.toNat ≤ 57 then some (c.toNat - 48) else if 97 ≤ c.toNat ∧ c.toNat ≤ 102 then some (c.toNat - 87) else none
theorem nib_dig : ∀ k : Fin 16, nib (digs[k.val]'(by show _ < 16; exact k.isLt)) = some k.val := by decide
theorem nib_inv {c : UInt8} {k : Nat} (h : nib c = some k) : ∃ hk : k < 16, digs[k]'(by show _ < 16; exact hk) = c := by
  have hc : ∀ c : Fin 256, ∀ k : Fin 16, nib (UInt8.ofNat c.val) = some k.val → digs[k.val]'(by show _ < 16; exact k.isLt) = UInt8.ofNat c.val := by decide +kernel
  have hk : k < 16 := by
    unfold nib at h
    split at h
    · cases h; omega
    · split at h
      · cases h; omega
      · cases h
  have hcc : UInt8.ofNat c.toNat = c := UInt8.ofNat_toNat
  have := hc ⟨c.toNat, c.toNat_lt⟩ ⟨k, hk⟩ (by rw [hcc]; exact h)
  exact ⟨hk, by rw [hcc] at this; exact this⟩
def pairO (a b : UInt8) : Option UInt8 := match nib a, nib b with
  | some x, some y => some (UInt8.ofNat (x * 16 + y))
  | _, _ => none
theorem pairO_hex (c : UInt8) : pairO (digs[c.toNat / 16]'(hx1 c)) (digs[c.toNat % 16]'(hx2 c)) = some c := by
  have h1 := nib_dig ⟨c.toNat / 16, hx1 c⟩
  have h2 := nib_dig ⟨c.toNat % 16, hx2 c⟩
  unfold pairO
  rw [h1, h2]
  show some (UInt8.ofNat (c.toNat / 16 * 16 + c.toNat % 16)) = some c
  rw [show c.toNat / 16 * 16 + c.toNat % 16 = c.toNat by omega, UInt8.ofNat_toNat]
theorem pairO_inv {a b c : UInt8} (h : pairO a b = some c) : hexL c = [a, b] := by
  unfold pairO at h
  split at h
  · rename_i x y hx hy
    obtain ⟨kx, ex⟩ := nib_inv hx
    obtain ⟨ky, ey⟩ := nib_inv hy
    cases h
    have e : (UInt8.ofNat (x * 16 + y)).toNat = x * 16 + y := by rw [UInt8.toNat_ofNat']; omega
    unfold hexL
    simp only [e]
    have e1 : (x * 16 + y) / 16 = x := by omega
    have e2 : (x * 16 + y) % 16 = y := by omega
    simp only [e1, e2, ex, ey]
  · cases h

def unhex : List UInt8 → Option (List UInt8)
  | [] => some []
  | [_] => none
  | a :: b :: r => match pairO a b with
    | some c => (unhex r).map (c :: ·)
    | none => none
theorem unhex_hex : ∀ l : List UInt8, unhex (l.flatMap hexL) = some l
  | [] => by simp [unhex]
  | c :: l => by
    rw [List.flatMap_cons]
    show unhex (_ :: _ :: l.flatMap hexL) = _
    rw [unhex, pairO_hex, unhex_hex l]; rfl
theorem unhex_inv : ∀ (s l : List UInt8), unhex s = some l → l.flatMap hexL = s
  | [], l, h => by
    simp only [unhex, Option.some.injEq] at h; subst h; rfl
  | [_], l, h => by simp [unhex] at h
  | a :: b :: r, l, h => by
    rw [unhex] at h
    split at h
    · rename_i c hc
      obtain ⟨t, ht, rfl⟩ := Option.map_eq_some_iff.1 h
      rw [List.flatMap_cons, pairO_inv hc, unhex_inv r t ht]; rfl
    · cases h

noncomputable def unq : List UInt8 → Option (List UInt8)
  | [] => some []
  | c :: r => if plainB c then (unq r).map (c :: ·) else if c = 92 then
      (match r with
      | a :: b :: r' => match pairO a b with
        | some d => if plainB d then none else (unq r').map (d :: ·)
        | none => none
      | _ => none) else none
theorem unq_cons (c : UInt8) (r : List UInt8) : unq (c :: r) = if plainB c then (unq r).map (c :: ·) else if c = 92 then
      (match r with
      | a :: b :: r' => match pairO a b with
        | some d => if plainB d then none else (unq r').map (d :: ·)
        | none => none
      | _ => none) else none := by
  cases r with
  | nil => simp [unq]
  | cons a r => cases r <;> simp [unq]
theorem unq_esc : ∀ l : List UInt8, unq (l.flatMap escL) = some l
  | [] => by simp [unq]
  | c :: l => by
    rw [List.flatMap_cons]
    unfold escL
    split
    · rename_i hp
      show unq (c :: l.flatMap escL) = _
      rw [unq_cons, if_pos ((plainB_t c).2 hp), unq_esc l]; rfl
    · rename_i hp
      show unq (92 :: (digs[c.toNat / 16]'(hx1 c)) :: (digs[c.toNat % 16]'(hx2 c)) :: l.flatMap escL) = _
      have h92 : ¬ plainB 92 = true := by rw [plainB_t]; unfold plainP; decide
      have hpc : ¬ plainB c = true := by rw [plainB_t]; exact hp
      rw [unq_cons, if_neg h92, if_pos rfl]
      simp only [pairO_hex]
      rw [if_neg hpc, unq_esc l]; rfl
theorem unq_inv : ∀ (n : Nat) (s l : List UInt8), s.length ≤ n → unq s = some l → l.flatMap escL = s
  | _, [], l, _, h => by simp only [unq, Option.some.injEq] at h; subst h; rfl
  | 0, c :: r, l, hn, h => by simp at hn
  | n + 1, c :: r, l, hn, h => by
    rw [unq_cons] at h
    split at h
    · rename_i hp
      obtain ⟨t, ht, rfl⟩ := Option.map_eq_some_iff.1 h
      rw [List.flatMap_cons, unq_inv n r t (by simpa using hn) ht]
      unfold escL; rw [if_pos ((plainB_t c).1 hp)]; rfl
    · split at h
      · rename_i h92
        subst h92
        split at h
        · rename_i a b r'
          split at h
          · rename_i d hd
            split at h
            · cases h
            · rename_i hp
              obtain ⟨t, ht, rfl⟩ := Option.map_eq_some_iff.1 h
              rw [List.flatMap_cons, unq_inv n r' t (by simp at hn; omega) ht]
              unfold escL; rw [if_neg (fun hq => hp ((plainB_t d).2 hq)), pairO_inv hd]; rfl
          · cases h
        · cases h
      · cases h

abbrev trueL : List UInt8 := [116, 114, 117, 101]
abbrev falseL : List UInt8 := [102, 97, 108, 115, 101]
noncomputable def readL : List UInt8 → Option Val
  | [] => none
  | c :: r =>
    if c = 116 ∨ c = 102 then (if c :: r = trueL then some ⟨2, 1, []⟩ else if c :: r = falseL then some ⟨2, 0, []⟩ else none)
    else if c = 64 then (numO r).map fun n => ⟨5, n, []⟩
    else if c = 33 then (numO r).map fun n => ⟨6, n, []⟩
    else if c = 58 then some ⟨7, 0, r⟩
    else if c = 35 then (unhex r).map fun l => ⟨4, 0, l⟩
    else if c = 34 then (if r.getLast? = some 34 then (unq r.dropLast).map fun l => ⟨3, 0, l⟩ else none)
    else (numO (c :: r)).map fun n => ⟨1, n, []⟩
abbrev zV : Val := ⟨0, 0, []⟩
noncomputable def parseV (s : List UInt8) : Val := match readL s with
  | some v => if mayB v then v else zV
  | none => zV
noncomputable def parseE (s : List UInt8) : Int := match readL s with
  | some v => if mayB v then 0 else 11
  | none => 11
theorem parse_ok {s : List UInt8} {v : Val} (h : readL s = some v) (hm : MayP v) : parseV s = v ∧ parseE s = 0 := by
  unfold parseV parseE; rw [h]; simp only [if_pos ((mayB_t v).mpr hm), and_self]
theorem parse_no {s : List UInt8} (h : ∀ v, readL s = some v → ¬ MayP v) : parseV s = zV ∧ parseE s = 11 := by
  unfold parseV parseE
  cases hr : readL s with
  | none => exact ⟨rfl, rfl⟩
  | some v => simp only [if_neg (fun e => h v hr ((mayB_t v).mp e)), and_self]
theorem parse_cases (s : List UInt8) : (∃ v, readL s = some v ∧ MayP v) ∨ ∀ v, readL s = some v → ¬ MayP v := by
  by_cases h : ∃ v, readL s = some v ∧ MayP v
  · exact .inl h
  · exact .inr fun v h1 h2 => h ⟨v, h1, h2⟩

theorem read_text {v : Val} (hm : MayP v) (h0 : -9223372036854775808 ≤ v.n) (h1 : v.n ≤ 9223372036854775807) : readL (textL v) = some v := by
  obtain ⟨k, n, s⟩ := v
  simp only at h0 h1
  have hnum : numO (Lib.itoa n) = some n := numO_iff.2 ⟨h0, h1, rfl⟩
  unfold MayP at hm
  simp only at hm
  rcases hm with ⟨rfl, g0, g1, rfl⟩ | ⟨rfl | rfl, rfl⟩ | ⟨rfl, rfl, g0, g1⟩ | ⟨rfl | rfl, rfl, g⟩ | ⟨rfl, rfl, g⟩
  · by_cases e : n = 1
    · subst e; simp [textL, readL]
    · have e0 : n = 0 := by omega
      subst e0; simp [textL, readL]
  · obtain ⟨c, r, hc, hd⟩ := itoa_head n
    have e : textL ⟨1, n, []⟩ = Lib.itoa n := by simp [textL]
    rw [e, hc]
    have hne : ∀ k : UInt8, (57 < k.toNat ∨ (k.toNat < 48 ∧ k.toNat ≠ 45)) → c ≠ k := fun k hk e => by
      subst e
      rcases hd with hd | rfl
      · unfold isD at hd; omega
      · revert hk; decide
    rw [readL, if_neg (by rintro (e | e) <;> exact hne _ (by decide) e), if_neg (hne _ (by decide)), if_neg (hne _ (by decide)), if_neg (hne _ (by decide)), if_neg (hne _ (by decide)), if_neg (hne _ (by decide)), ← hc, hnum]; rfl
  · simp [textL, readL, hnum]
  · simp [textL, readL, hnum]
  · have e : textL ⟨3, 0, s⟩ = 34 :: (s.flatMap escL ++ [34]) := by simp [textL]
    rw [e, readL]
    simp [unq_esc]
  · simp [textL, readL, unhex_hex]
  · simp [textL, readL]
theorem text_read {s : List UInt8} {v : Val} (h : readL s = some v) : textL v = s := by
  cases s with
  | nil => simp [readL] at h
  | cons c r =>
    rw [readL] at h
    split at h
    · split at h
      · rename_i e; cases h; rw [e]; simp [textL]
      · split at h
        · rename_i e; cases h; rw [e]; simp [textL]
        · cases h
    · split at h
      · rename_i e; subst e
        obtain ⟨n, hn, rfl⟩ := Option.map_eq_some_iff.1 h
        simp [textL, (numO_iff.1 hn).2.2]
      · split at h
        · rename_i e; subst e
          obtain ⟨n, hn, rfl⟩ := Option.map_eq_some_iff.1 h
          simp [textL, (numO_iff.1 hn).2.2]
        · split at h
          · rename_i e; subst e; cases h; simp [textL]
          · split at h
            · rename_i e; subst e
              obtain ⟨n, hn, rfl⟩ := Option.map_eq_some_iff.1 h
              simp [textL, unhex_inv _ _ hn]
            · split at h
              · rename_i e; subst e
                split at h
                · rename_i hl
                  obtain ⟨n, hn, rfl⟩ := Option.map_eq_some_iff.1 h
                  have hr : r ≠ [] := by rintro rfl; simp at hl
                  have hg : r.getLast hr = 34 := by rw [List.getLast?_eq_some_getLast hr] at hl; exact Option.some.inj hl
                  have : r.dropLast ++ [34] = r := by rw [← hg]; exact List.dropLast_concat_getLast hr
                  simp [textL, unq_inv _ _ _ (Nat.le_refl _) hn, this]
                · cases h
              · obtain ⟨n, hn, rfl⟩ := Option.map_eq_some_iff.1 h
                simp [textL, (numO_iff.1 hn).2.2]
end Go.Proofs
