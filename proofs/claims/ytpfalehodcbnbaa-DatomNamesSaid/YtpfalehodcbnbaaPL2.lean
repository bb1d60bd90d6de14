/- The plain law of keys read: a key is read as it was written, and what is read, written, are the bytes. No program in sight. -/
import Derived.Test.YtpfalehodcbnbaaAE7
namespace Go.Proofs
open Go.AL

/-! Numbers. -/
theorem numR_from (l : List UInt8) (v : Nat) : l.foldl (fun v c => (v * 256 + c.toNat) % 18446744073709551616) v % 18446744073709551616 = (v * 256 ^ l.length + numR l) % 18446744073709551616 := by
  induction l generalizing v with
  | nil => simp [numR]
  | cons c l ih =>
    have e : numR (c :: l) % 18446744073709551616 = (c.toNat * 256 ^ l.length + numR l) % 18446744073709551616 := by
      have := ih ((0 * 256 + c.toNat) % 18446744073709551616)
      have hc := UInt8.toNat_lt c
      rw [Nat.mod_eq_of_lt (show 0 * 256 + c.toNat < 18446744073709551616 by omega)] at this
      simp only [Nat.zero_mul, Nat.zero_add] at this
      rw [← this]
      simp only [numR, List.foldl_cons, Nat.zero_mul, Nat.zero_add]
      rw [Nat.mod_eq_of_lt (show c.toNat < 18446744073709551616 by omega)]
    simp only [List.foldl_cons, List.length_cons]
    rw [ih, Nat.add_mod, Nat.mul_mod, Nat.mod_mod, ← Nat.mul_mod, ← Nat.add_mod, Nat.add_mod (v * 256 ^ (l.length + 1)), e, ← Nat.add_mod]
    congr 1
    rw [Nat.pow_succ, Nat.add_mul]
    have : v * (256 ^ l.length * 256) = v * 256 * 256 ^ l.length := by rw [Nat.mul_assoc v, Nat.mul_comm 256]
    omega
theorem pow256 : (256 : Nat) ^ 8 = 18446744073709551616 := by decide
theorem pow256_le {i : Nat} (h : i ≤ 8) : (256 : Nat) ^ i ≤ 18446744073709551616 := by rw [← pow256]; exact Nat.pow_le_pow_right (by decide) h
theorem numR_cons (c : UInt8) (l : List UInt8) (h : l.length ≤ 7) : numR (c :: l) = c.toNat * 256 ^ l.length + numR l ∧ numR l < 256 ^ l.length := by
  induction l generalizing c with
  | nil =>
    simp [numR]
  | cons d l ih =>
    obtain ⟨h1, h2⟩ := ih d (by simp at h; omega)
    have hd := UInt8.toNat_lt d
    have hc := UInt8.toNat_lt c
    have hlt : numR (d :: l) < 256 ^ (d :: l).length := by
      rw [h1, List.length_cons, Nat.pow_succ]
      have : d.toNat * 256 ^ l.length ≤ 255 * 256 ^ l.length := Nat.mul_le_mul_right _ (by omega)
      omega
    refine ⟨?_, hlt⟩
    have e := numR_from (d :: l) c.toNat
    have e2 : numR (c :: d :: l) = (d :: l).foldl (fun v c => (v * 256 + c.toNat) % 18446744073709551616) c.toNat := by
      simp only [numR, List.foldl_cons, Nat.zero_mul, Nat.zero_add, Nat.mod_eq_of_lt (show c.toNat < 18446744073709551616 by omega)]
    have hb : c.toNat * 256 ^ (d :: l).length + numR (d :: l) < 18446744073709551616 := by
      have hp : (256 : Nat) ^ ((d :: l).length + 1) ≤ 18446744073709551616 := pow256_le (by omega)
      rw [Nat.pow_succ] at hp
      have : c.toNat * 256 ^ (d :: l).length ≤ 255 * 256 ^ (d :: l).length := Nat.mul_le_mul_right _ (by omega)
      omega
    rw [Nat.mod_eq_of_lt hb, ← e2, Nat.mod_eq_of_lt (numR_lt _)] at e
    exact e
theorem lowb_mod (V W : Nat) : ∀ i, V % 256 ^ i = W % 256 ^ i → lowb V i = lowb W i
  | 0, _ => rfl
  | i + 1, h => by
    have e1 := Nat.mod_mul (x := V) (a := 256 ^ i) (b := 256)
    have e2 := Nat.mod_mul (x := W) (a := 256 ^ i) (b := 256)
    rw [Nat.pow_succ, e1, e2] at h
    have hp : 0 < 256 ^ i := Nat.pow_pos (by decide)
    have l1 := Nat.mod_lt V hp
    have l2 := Nat.mod_lt W hp
    have h1 : V % 256 ^ i = W % 256 ^ i := by
      have := congrArg (· % 256 ^ i) h
      simpa [Nat.add_mul_mod_self_left] using this
    have h2 : V / 256 ^ i % 256 = W / 256 ^ i % 256 := by
      rw [h1] at h
      exact Nat.eq_of_mul_eq_mul_left hp (Nat.add_left_cancel h)
    simp only [lowb, List.cons.injEq]
    refine ⟨?_, lowb_mod V W i h1⟩
    apply UInt8.toNat.inj
    simp only [nb, UInt8.toNat_ofNat']
    exact h2
theorem lowb_numR : ∀ (l : List UInt8), l.length ≤ 8 → lowb (numR l) l.length = l
  | [], _ => rfl
  | c :: l, h => by
    have hl : l.length ≤ 7 := by simp at h; omega
    obtain ⟨h1, h2⟩ := numR_cons c l hl
    have hp : 0 < 256 ^ l.length := Nat.pow_pos (by decide)
    simp only [List.length_cons, lowb, List.cons.injEq]
    constructor
    · apply UInt8.toNat.inj
      have hc := UInt8.toNat_lt c
      simp only [nb, UInt8.toNat_ofNat', h1]
      rw [Nat.add_comm, Nat.add_mul_div_right _ _ hp, Nat.div_eq_of_lt h2]
      omega
    · rw [← lowb_numR l (by omega)]
      rw [show lowb (numR l) l.length = l from lowb_numR l (by omega)]
      conv => rhs; rw [← lowb_numR l (by omega)]
      exact lowb_mod _ _ _ (by rw [h1, Nat.add_comm, Nat.add_mul_mod_self_right])
theorem numR_lowb (V : Nat) : ∀ i, i ≤ 8 → numR (lowb V i) = V % 256 ^ i
  | 0, _ => by simp [lowb, numR, Nat.mod_one]
  | i + 1, h => by
    have ih := numR_lowb V i (by omega)
    have hl := lowb_len V i
    obtain ⟨h1, _⟩ := numR_cons (nb V i) (lowb V i) (by omega)
    have e1 := Nat.mod_mul (x := V) (a := 256 ^ i) (b := 256)
    simp only [lowb]
    rw [h1, hl, ih, Nat.pow_succ, e1]
    simp only [nb, UInt8.toNat_ofNat']
    rw [Nat.mul_comm, Nat.add_comm]
theorem wrapN (m : Nat) (h : m < 18446744073709551616) : IntKind.i64.wrap (m : Int) = if m < 9223372036854775808 then (m : Int) else (m : Int) - 18446744073709551616 := by
  simp only [IntKind.wrap, IntKind.bits, IntKind.signed, Bool.true_and]
  by_cases h1 : m < 9223372036854775808
  · rw [if_pos h1, if_neg (by simp; omega)]; omega
  · rw [if_neg h1, if_pos (by simp; omega)]; omega
theorem numV_num8 {n : Int} (h : i64P n) : numV (num8 n) = n := by
  have h1 := num64_i n
  have h2 := num64_lt n
  unfold numV num8
  rw [numR_lowb _ 8 (by omega), pow256, Nat.mod_eq_of_lt h2]
  unfold i64P at h
  rw [wrapN _ (Nat.mod_lt _ (by decide))]
  split <;> omega
theorem numV_i64 (l : List UInt8) : i64P (numV l) := by
  unfold i64P numV
  have := Nat.mod_lt (numR l + 9223372036854775808) (show 0 < 18446744073709551616 by decide)
  rw [wrapN _ this]
  split <;> omega
theorem num8_numV {l : List UInt8} (h : l.length = 8) : num8 (numV l) = l := by
  have h1 := num64_i (numV l)
  have h2 := numR_lt l
  have e : num64 (numV l) = numR l := by
    have : (num64 (numV l) : Int) = numR l := by
      rw [h1]
      unfold numV
      rw [wrapN _ (Nat.mod_lt _ (by decide))]
      split <;> omega
    omega
  unfold num8
  rw [e]
  have := lowb_numR l (by omega)
  rw [h] at this; exact this

/-! Texts. -/
theorem rdT_text (x : List UInt8) : ∀ (s : List UInt8), rdT (textB s ++ x) = (s, x, false)
  | [] => by simp [textB, esc, rdT]
  | c :: s => by
    have ih := rdT_text x s
    by_cases h : c = 0
    · have e : textB (c :: s) ++ x = 0 :: 255 :: (textB s ++ x) := by simp [textB, esc, h]
      rw [e]; simp [rdT, ih, h]
    · have e : textB (c :: s) ++ x = c :: (textB s ++ x) := by simp [textB, esc, h]
      rw [e, rdT_cons c _ h, ih]
theorem text_rdT : ∀ (b : List UInt8), (rdT b).2.2 = false → textB (rdT b).1 ++ (rdT b).2.1 = b
  | [], h => by simp [rdT] at h
  | [c], h => by simp [rdT] at h
  | c :: x :: b, h => by
    by_cases hc : c = 0
    · subst hc
      by_cases h1 : x = 1
      · subst h1; simp [rdT, textB, esc]
      · by_cases h2 : x = 255
        · subst h2
          have ih := text_rdT b (by simpa [rdT] using h)
          simp only [rdT, if_true, h1, if_false]
          have e : textB (0 :: (rdT b).1) ++ (rdT b).2.1 = 0 :: 255 :: (textB (rdT b).1 ++ (rdT b).2.1) := by simp [textB, esc]
          rw [e, ih]
        · simp [rdT, h1, h2] at h
    · rw [rdT_cons c _ hc] at h ⊢
      have ih := text_rdT (x :: b) h
      simp only
      have e : textB (c :: (rdT (x :: b)).1) ++ (rdT (x :: b)).2.1 = c :: (textB (rdT (x :: b)).1 ++ (rdT (x :: b)).2.1) := by simp [textB, esc, hc]
      rw [e, ih]

/-! Values. -/
theorem MayP_cases {v : Val} (h : mayB v = true) : (v.kind = 1 ∧ v.s = []) ∨ (v.kind = 2 ∧ v.s = [] ∧ 0 ≤ v.n ∧ v.n ≤ 1) ∨ ((v.kind = 3 ∨ v.kind = 4 ∨ v.kind = 7) ∧ v.n = 0) ∨ ((v.kind = 5 ∨ v.kind = 6) ∧ v.s = []) := by
  simp only [mayB, dP_t, MayP] at h
  rcases h with h | h | h | h | h <;> simp_all <;> omega
theorem u8i_nat (n : Int) (h0 : 0 ≤ n) (h : n < 256) : ((u8i n).toNat : Int) = n := by
  simp only [u8i, UInt8.toNat_ofNat']; omega
theorem u8i_u8 (c : UInt8) : u8i (c.toNat : Int) = c := by
  have := UInt8.toNat_lt c
  apply UInt8.toNat.inj
  simp only [u8i, UInt8.toNat_ofNat']; omega
theorem takeB_cons (c : UInt8) (b : List UInt8) : takeB (c :: b) false 1 = b ∧ takeX (c :: b) false 1 = false ∧ hd1 (c :: b) false = c := by
  have h : takeX (c :: b) false 1 = false := by simp [takeX]
  refine ⟨?_, h, ?_⟩
  · unfold takeB; rw [if_neg (by rw [h]; exact Bool.false_ne_true)]; rfl
  · unfold hd1; rw [if_neg (by rw [h]; exact Bool.false_ne_true)]; rfl
theorem take8_app {l b : List UInt8} (hl : l.length = 8) : takeX (l ++ b) false 8 = false ∧ takeB (l ++ b) false 8 = b ∧ takeV (l ++ b) false 8 = l := by
  have h : takeX (l ++ b) false 8 = false := by simp [takeX, hl]
  refine ⟨h, ?_, ?_⟩
  · unfold takeB; rw [if_neg (by rw [h]; exact Bool.false_ne_true), ← hl, List.drop_left]
  · unfold takeV; rw [if_neg (by rw [h]; exact Bool.false_ne_true), ← hl, List.take_left]
theorem rdVal_valB {v : Val} {x : List UInt8} (hm : mayB v = true) (hi : i64P v.n) : rdVal (valB v ++ x) false = (v, x, false) := by
  have hk := kind_of hm
  have hc := MayP_cases hm
  have e0 : valB v ++ x = u8i v.kind :: ((if v.kind = 2 then [u8i v.n] else if v.kind = 3 ∨ v.kind = 4 ∨ v.kind = 7 then textB v.s else num8 v.n) ++ x) := by simp [valB]
  rw [e0]
  have ek := u8i_nat v.kind (by omega) (by omega)
  generalize hT : ((if v.kind = 2 then [u8i v.n] else if v.kind = 3 ∨ v.kind = 4 ∨ v.kind = 7 then textB v.s else num8 v.n) ++ x) = T
  obtain ⟨t1, t2, t3⟩ := takeB_cons (u8i v.kind) T
  simp only [rdVal, t1, t2, t3, ek]
  by_cases h2 : v.kind = 2
  · rw [if_pos h2] at hT ⊢
    subst hT
    obtain ⟨q1, q2, q3⟩ := takeB_cons (u8i v.n) x
    have hn : 0 ≤ v.n ∧ v.n ≤ 1 ∧ v.s = [] := by
      rcases hc with h | h | h | h
      · omega
      · exact ⟨h.2.2.1, h.2.2.2, h.2.1⟩
      · omega
      · omega
    have en := u8i_nat v.n hn.1 (by omega)
    have ev : (⟨v.kind, ((u8i v.n).toNat : Int), []⟩ : Val) = v := by
      obtain ⟨k, n, s⟩ := v
      simp only at *; rw [en, hn.2.2]
    simp only [List.cons_append, List.nil_append, q1, q2, q3, ev, hm]
    rfl
  · rw [if_neg h2] at hT ⊢
    by_cases h3 : v.kind = 3 ∨ v.kind = 4 ∨ v.kind = 7
    · rw [if_pos h3] at hT ⊢
      subst hT
      have hn : v.n = 0 := by
        rcases hc with h | h | h | h
        · omega
        · omega
        · exact h.2
        · omega
      have er : rdTx (textB v.s ++ x) false = (v.s, x, false) := by rw [rdTx, if_neg Bool.false_ne_true, rdT_text]
      have ev : (⟨v.kind, 0, v.s⟩ : Val) = v := by
        obtain ⟨k, n, s⟩ := v
        simp only at *; rw [hn]
      simp only [er, ev, hm]
      rfl
    · rw [if_neg h3] at hT ⊢
      subst hT
      obtain ⟨q1, q2, q3⟩ := take8_app (b := x) (num8_len v.n)
      have hs : v.s = [] := by
        rcases hc with h | h | h | h
        · exact h.2
        · exact h.2.1
        · exact absurd h.1 h3
        · exact h.2
      have ev : (⟨v.kind, v.n, []⟩ : Val) = v := by
        obtain ⟨k, n, s⟩ := v
        simp only at *; rw [hs]
      simp only [q1, q2, q3, numV_num8 hi, ev, hm]
      rfl
theorem takeX_f {b : List UInt8} {n : Nat} (h : takeX b false n = false) : n ≤ b.length := by
  unfold takeX at h; simp at h; exact h
theorem takeX_bad (b : List UInt8) (n : Nat) : takeX b true n = true := by simp [takeX]
theorem rdTx_bad (b : List UInt8) : (rdTx b true).2.2 = true := by simp [rdTx]
theorem rdVal_bad (b : List UInt8) (bad : Bool) (h : takeX b bad 1 = true) : (rdVal b bad).2.2 = true := by
  simp only [rdVal, h, takeX_bad, rdTx_bad]
  split
  · rfl
  · split <;> rfl
theorem valB_rdVal {b : List UInt8} (h : (rdVal b false).2.2 = false) : valB (rdVal b false).1 ++ (rdVal b false).2.1 = b ∧ mayB (rdVal b false).1 = true ∧ i64P (rdVal b false).1.n := by
  cases b with
  | nil =>
    have := rdVal_bad [] false (by decide)
    rw [this] at h; cases h
  | cons c T =>
    obtain ⟨t1, t2, t3⟩ := takeB_cons c T
    have hc := UInt8.toNat_lt c
    simp only [rdVal, t1, t2, t3] at h ⊢
    by_cases h2 : (c.toNat : Int) = 2
    · rw [if_pos h2] at h ⊢
      simp only [Bool.or_eq_false_iff, Bool.not_eq_false'] at h
      obtain ⟨q1, q2⟩ := h
      cases T with
      | nil => simp [takeX] at q1
      | cons d T =>
        obtain ⟨r1, r2, r3⟩ := takeB_cons d T
        have hd := UInt8.toNat_lt d
        simp only [r1, r3] at q2 ⊢
        refine ⟨?_, q2, by unfold i64P; omega⟩
        simp only [valB, if_pos h2, u8i_u8]; rfl
    · rw [if_neg h2] at h ⊢
      by_cases h3 : (c.toNat : Int) = 3 ∨ (c.toNat : Int) = 4 ∨ (c.toNat : Int) = 7
      · rw [if_pos h3] at h ⊢
        simp only [Bool.or_eq_false_iff, Bool.not_eq_false'] at h
        obtain ⟨q1, q2⟩ := h
        have er : rdTx T false = rdT T := by rw [rdTx, if_neg Bool.false_ne_true]
        rw [er] at q1 q2 ⊢
        refine ⟨?_, q2, by unfold i64P; simp only; omega⟩
        simp only [valB, if_neg h2, if_pos h3, u8i_u8]
        rw [List.append_assoc, text_rdT T q1]; rfl
      · rw [if_neg h3] at h ⊢
        simp only [Bool.or_eq_false_iff, Bool.not_eq_false'] at h
        obtain ⟨q1, q2⟩ := h
        have hl := takeX_f q1
        have e1 : takeV T false 8 = T.take 8 := by unfold takeV; rw [if_neg (by rw [q1]; exact Bool.false_ne_true)]
        have e2 : takeB T false 8 = T.drop 8 := by unfold takeB; rw [if_neg (by rw [q1]; exact Bool.false_ne_true)]
        rw [e1] at q2 ⊢
        rw [e2]
        have hi := numV_i64 (T.take 8)
        have h8 := num8_numV (l := T.take 8) (by simp; omega)
        generalize numV (T.take 8) = V at *
        refine ⟨?_, q2, hi⟩
        simp only [valB, if_neg h2, if_neg h3, u8i_u8]
        rw [h8, List.append_assoc, List.take_append_drop]; rfl

/-! Parts. -/
/-- A part as one that is read is: what it isn't is nothing. -/
def canP (p : Prt) : Prop := p = if p.value then prtV p.v else prtN p.n
theorem rdAll_key : ∀ (l : List Prt) (x : List UInt8), (∀ p, p ∈ l → PartP p ∧ prtI p ∧ canP p) → rdAll (l.map Prt.value) (l.flatMap partB ++ x, false) = (l, x, false)
  | [], x, _ => by simp [rdAll]
  | p :: l, x, h => by
    have hp := h p (.head _)
    have ih := rdAll_key l x fun q hq => h q (.tail _ hq)
    have e : rdPart p.value (((p :: l).flatMap partB ++ x), false) = (p, l.flatMap partB ++ x, false) := by
      rw [List.flatMap_cons, List.append_assoc]
      generalize l.flatMap partB ++ x = T
      unfold rdPart partB
      by_cases hv : p.value = true
      · rw [if_pos hv, if_pos hv, rdVal_valB (hp.1 hv) hp.2.1.2]
        have := hp.2.2
        rw [canP, if_pos hv] at this
        rw [← this]
      · rw [if_neg hv, if_neg hv]
        obtain ⟨q1, q2, q3⟩ := take8_app (b := T) (num8_len p.n)
        simp only [q1, q2, q3, numV_num8 hp.2.1.1]
        have := hp.2.2
        rw [canP, if_neg hv] at this
        rw [← this]
    rw [List.map_cons, rdAll, e]
    simp only [Bool.false_eq_true, if_false, ih]
theorem key_rdAll : ∀ (ks : List Bool) (b : List UInt8), (rdAll ks (b, false)).2.2 = false → (rdAll ks (b, false)).1.flatMap partB ++ (rdAll ks (b, false)).2.1 = b ∧ (rdAll ks (b, false)).1.map Prt.value = ks ∧
    ∀ p, p ∈ (rdAll ks (b, false)).1 → PartP p ∧ prtI p ∧ canP p
  | [], b, _ => by simp [rdAll]
  | k :: ks, b, h => by
    simp only [rdAll] at h ⊢
    by_cases hx : (rdPart k (b, false)).2.2 = true
    · rw [if_pos hx] at h; simp only at h; rw [hx] at h; cases h
    · rw [if_neg hx] at h ⊢
      have hx' : (rdPart k (b, false)).2.2 = false := by simpa using hx
      have es : (rdPart k (b, false)).2 = ((rdPart k (b, false)).2.1, false) := Prod.ext rfl hx'
      rw [es] at h ⊢
      simp only at h ⊢
      obtain ⟨h1, h2, h3⟩ := key_rdAll ks (rdPart k (b, false)).2.1 h
      have hp : partB (rdPart k (b, false)).1 ++ (rdPart k (b, false)).2.1 = b ∧ (rdPart k (b, false)).1.value = k ∧ PartP (rdPart k (b, false)).1 ∧ prtI (rdPart k (b, false)).1 ∧ canP (rdPart k (b, false)).1 := by
        have h0 : i64P 0 := by unfold i64P; decide
        cases k with
        | true =>
          have e : rdPart true (b, false) = (prtV (rdVal b false).1, (rdVal b false).2) := rfl
          rw [e] at hx' ⊢
          obtain ⟨g1, g2, g3⟩ := valB_rdVal hx'
          exact ⟨g1, rfl, fun _ => g2, ⟨h0, g3⟩, rfl⟩
        | false =>
          have e : rdPart false (b, false) = (prtN (numV (takeV b false 8)), takeB b false 8, takeX b false 8) := rfl
          rw [e] at hx' ⊢
          simp only at hx'
          have hl := takeX_f hx'
          have e1 : takeV b false 8 = b.take 8 := by unfold takeV; rw [if_neg (by rw [hx']; exact Bool.false_ne_true)]
          have e2 : takeB b false 8 = b.drop 8 := by unfold takeB; rw [if_neg (by rw [hx']; exact Bool.false_ne_true)]
          have hi := numV_i64 (b.take 8)
          have h8 := num8_numV (l := b.take 8) (by simp; omega)
          rw [e1, e2]
          generalize numV (b.take 8) = V at *
          refine ⟨?_, rfl, (fun h => by cases h), ⟨hi, h0⟩, rfl⟩
          show num8 V ++ b.drop 8 = b
          rw [h8, List.take_append_drop]
      refine ⟨?_, ?_, ?_⟩
      · rw [List.flatMap_cons, List.append_assoc, h1, hp.1]
      · rw [List.map_cons, h2, hp.2.1]
      · intro p hm
        simp only [List.mem_cons] at hm
        rcases hm with rfl | hm
        · exact hp.2.2
        · exact h3 p hm
end Go.Proofs
