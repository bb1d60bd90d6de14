/- The plain law of keys: a key's bytes begin with a prefix's just if the parts do. No program in sight. -/
import Derived.Test.YtpfalehodcbnbaaAD9
namespace Go.Proofs
open Go.AL

def i64P (n : Int) : Prop := -9223372036854775808 ≤ n ∧ n < 9223372036854775808
theorem lowb_inj : ∀ (i V W : Nat), lowb V i = lowb W i → V % 256 ^ i = W % 256 ^ i
  | 0, V, W, _ => by simp [Nat.mod_one]
  | i + 1, V, W, h => by
    simp only [lowb, List.cons.injEq] at h
    have h1 := congrArg UInt8.toNat h.1
    simp only [nb, UInt8.toNat_ofNat'] at h1
    have h2 := lowb_inj i V W h.2
    have e1 := Nat.mod_mul (x := V) (a := 256 ^ i) (b := 256)
    have e2 := Nat.mod_mul (x := W) (a := 256 ^ i) (b := 256)
    rw [Nat.pow_succ, e1, e2, h2]
    have : V / 256 ^ i % 256 = W / 256 ^ i % 256 := h1
    rw [this]
theorem num8_inj {n m : Int} (hn : i64P n) (hm : i64P m) (h : num8 n = num8 m) : n = m := by
  have h1 := lowb_inj 8 _ _ h
  have e1 := num64_i n
  have e2 := num64_i m
  have e3 := num64_lt n
  have e4 := num64_lt m
  unfold i64P at hn hm
  have : (256 : Nat) ^ 8 = 18446744073709551616 := by decide
  rw [this, Nat.mod_eq_of_lt e3, Nat.mod_eq_of_lt e4] at h1
  rw [h1] at e1
  omega
theorem esc_inj : ∀ (s t x y : List UInt8), textB s ++ x = textB t ++ y → s = t
  | [], [], _, _, _ => rfl
  | [], c :: t, x, y, h => by
    simp only [textB, esc, List.flatMap_nil, List.flatMap_cons, List.nil_append] at h
    by_cases e : c = 0
    · simp [e] at h
    · simp [e] at h; exact absurd h.1.symm e
  | a :: s, [], x, y, h => by
    simp only [textB, esc, List.flatMap_nil, List.flatMap_cons, List.nil_append] at h
    by_cases e : a = 0
    · simp [e] at h
    · simp [e] at h; try exact absurd h.1 e
  | a :: s, c :: t, x, y, h => by
    simp only [textB, esc, List.flatMap_cons] at h
    by_cases e : a = 0
    · by_cases e' : c = 0
      · rw [if_pos e, if_pos e'] at h
        have h' : textB s ++ x = textB t ++ y := by
          simpa [textB, esc] using h
        rw [esc_inj s t x y h', e, e']
      · simp [e, e'] at h; exact absurd h.1.symm e'
    · by_cases e' : c = 0
      · simp [e, e'] at h; try exact absurd h.1 e
      · rw [if_neg e, if_neg e'] at h
        simp only [List.cons_append, List.nil_append, List.cons.injEq] at h
        have h' : textB s ++ x = textB t ++ y := h.2
        rw [esc_inj s t x y h', h.1]
theorem kind_of {v : Val} (h : mayB v = true) : 1 ≤ v.kind ∧ v.kind ≤ 7 := by
  simp only [mayB, dP_t, MayP] at h; omega
theorem u8i_inj {a b : Int} (ha : 0 ≤ a ∧ a < 256) (hb : 0 ≤ b ∧ b < 256) (h : u8i a = u8i b) : a = b := by
  have := congrArg UInt8.toNat h
  simp only [u8i, UInt8.toNat_ofNat'] at this
  omega
theorem len_eq_left {α : Type} {a b x y : List α} (h : a ++ x = b ++ y) (hl : a.length = b.length) : a = b ∧ x = y := List.append_inj h hl
theorem valB_inj {v w : Val} {x y : List UInt8} (hv : mayB v = true) (hw : mayB w = true) (iv : i64P v.n) (iw : i64P w.n) (h : valB v ++ x = valB w ++ y) : v = w := by
  have k1 := kind_of hv
  have k2 := kind_of hw
  simp only [valB, List.cons_append, List.nil_append, List.cons.injEq] at h
  obtain ⟨h1, h2⟩ := h
  have hk := u8i_inj (by omega) (by omega) h1
  simp only [mayB, dP_t, MayP] at hv hw
  obtain ⟨k, n, s⟩ := v
  obtain ⟨k', n', s'⟩ := w
  simp only at *
  subst hk
  by_cases e2 : k = 2
  · rw [if_pos e2, if_pos e2] at h2
    simp only [List.cons_append, List.nil_append, List.cons.injEq] at h2
    have h3 : (s = [] ∧ 0 ≤ n ∧ n ≤ 1) ∧ (s' = [] ∧ 0 ≤ n' ∧ n' ≤ 1) := by
      subst e2; constructor <;> simp_all <;> omega
    have hn := u8i_inj (by omega) (by omega) h2.1
    rw [h3.1.1, h3.2.1, hn]
  · rw [if_neg e2, if_neg e2] at h2
    by_cases e3 : k = 3 ∨ k = 4 ∨ k = 7
    · rw [if_pos e3, if_pos e3] at h2
      have hs := esc_inj _ _ _ _ h2
      have hn : n = 0 ∧ n' = 0 := by
        rcases e3 with rfl | rfl | rfl <;> simp_all
      rw [hs, hn.1, hn.2]
    · rw [if_neg e3, if_neg e3] at h2
      have hn := num8_inj iv iw (len_eq_left h2 (by rw [num8_len, num8_len])).1
      have hs : s = [] ∧ s' = [] := by
        have : k = 1 ∨ k = 5 ∨ k = 6 := by omega
        rcases this with rfl | rfl | rfl <;> simp_all
      rw [hs.1, hs.2, hn]

def prtI (p : Prt) : Prop := i64P p.n ∧ i64P p.v.n
theorem part_inj {p q : Prt} {x y : List UInt8} (hf : p.value = q.value) (hp : PartP p) (hq : PartP q) (ip : prtI p) (iq : prtI q) (h : partB p ++ x = partB q ++ y) : standI q p = 0 := by
  unfold partB at h
  by_cases e : p.value = true
  · have e' : q.value = true := hf ▸ e
    rw [if_pos e, if_pos e'] at h
    have := valB_inj (hp e) (hq e') ip.2 iq.2 h
    simp only [standI, e', if_true, this]
    exact (cmpV_z _ _).2 rfl
  · have e' : ¬ q.value = true := hf ▸ e
    rw [if_neg e, if_neg e'] at h
    have := num8_inj ip.1 iq.1 (len_eq_left h (by rw [num8_len, num8_len])).1
    simp only [standI, if_neg e', this]
    exact (cmpI_z _ _).2 rfl
theorem part_eq {p q : Prt} (hf : p.value = q.value) (h : standI q p = 0) : partB p = partB q := by
  unfold standI at h
  unfold partB
  by_cases e : p.value = true
  · have e' : q.value = true := hf ▸ e
    rw [if_pos e'] at h
    rw [if_pos e, if_pos e', (cmpV_z _ _).1 h]
  · have e' : ¬ q.value = true := hf ▸ e
    rw [if_neg e'] at h
    rw [if_neg e, if_neg e', (cmpI_z _ _).1 h]

theorem key_prefix : ∀ (l m : List Prt), l.length ≤ m.length → (∀ (i : Nat) (h : i < l.length) (h' : i < m.length), l[i].value = m[i].value) → (∀ p, p ∈ l → PartP p ∧ prtI p) → (∀ p, p ∈ m → PartP p ∧ prtI p) →
    (l.flatMap partB <+: m.flatMap partB ↔ ∀ (i : Nat) (h : i < l.length) (h' : i < m.length), standI m[i] l[i] = 0)
  | [], m, _, _, _, _ => by simp
  | p :: l, [], h, _, _, _ => by simp at h
  | p :: l, q :: m, hlen, hf, hl, hm => by
    have f0 : p.value = q.value := hf 0 (by simp) (by simp)
    have hp := hl p (.head _)
    have hq := hm q (.head _)
    have ih := key_prefix l m (by simpa using hlen) (fun i h h' => by
      have := hf (i + 1) (by simpa using h) (by simpa using h')
      simpa using this) (fun p hp => hl p (.tail _ hp)) (fun p hp => hm p (.tail _ hp))
    rw [List.flatMap_cons, List.flatMap_cons]
    constructor
    · rintro ⟨x, hx⟩
      rw [List.append_assoc] at hx
      have h0 := part_inj f0 hp.1 hq.1 hp.2 hq.2 hx
      have e := part_eq f0 h0
      rw [e] at hx
      have hx' := List.append_cancel_left hx
      have := ih.1 ⟨x, hx'⟩
      intro i h h'
      cases i with
      | zero => exact h0
      | succ i => simpa using this i (by simpa using h) (by simpa using h')
    · intro h
      have h0 : standI q p = 0 := h 0 (by simp) (by simp)
      rw [part_eq f0 h0]
      exact (List.prefix_append_right_inj _).2 (ih.2 fun i h1 h2 => by
        have := h (i + 1) (by simpa using h1) (by simpa using h2)
        simpa using this)
end Go.Proofs
