/- The plain law of spans: the document's way, by the instants at which something may turn. No condition. -/
import Derived.Test.YtfnmipagllofiaaPSp
namespace Go.Proofs

def jo (o : List Sp) (x y : Int) : List Sp :=
  match o.getLast? with
  | none => o ++ [⟨x, y⟩]
  | some p => if p.t = x then o.dropLast ++ [⟨p.f, y⟩] else o ++ [⟨x, y⟩]
theorem jo_nil (x y : Int) : jo [] x y = [⟨x, y⟩] := rfl
theorem jo_snoc (o : List Sp) (p : Sp) (x y : Int) : jo (o ++ [p]) x y = if p.t = x then o ++ [⟨p.f, y⟩] else o ++ [p] ++ [⟨x, y⟩] := by
  unfold jo; rw [List.getLast?_concat]; simp only [List.dropLast_concat]
theorem jo_len (o : List Sp) (x y : Int) : (jo o x y).length ≤ o.length + 1 := by
  rcases snoc_cases o with rfl | ⟨o, p, rfl⟩
  · simp [jo_nil]
  · rw [jo_snoc]; split <;> simp
def ofI (g : Nat → Int) (sel : Int → Bool) : Nat → List Sp
  | 0 => []
  | j + 1 => if sel (g j) then jo (ofI g sel j) (g j) (g (j + 1)) else ofI g sel j
theorem ofI_len (g : Nat → Int) (sel : Int → Bool) : ∀ j, (ofI g sel j).length ≤ j
  | 0 => by simp [ofI]
  | j + 1 => by
    have := ofI_len g sel j
    have h2 := jo_len (ofI g sel j) (g j) (g (j + 1))
    unfold ofI; split <;> omega
theorem ofI_ok {g : Nat → Int} {n : Nat} (sel : Int → Bool) (hm : ∀ i j, i < j → j < n → g i < g j) : ∀ j, j < n →
    SetP (ofI g sel j) ∧ (∀ x, inS (ofI g sel j) x ↔ ∃ i, i < j ∧ g i ≤ x ∧ x < g (i + 1) ∧ sel (g i) = true) ∧ ∀ p, p ∈ ofI g sel j → p.t ≤ g j
  | 0, _ => ⟨.nil, fun x => ⟨fun h => absurd h (inS_nil x), fun ⟨i, h, _⟩ => by omega⟩, fun p h => by simp [ofI] at h⟩
  | j + 1, hj => by
    obtain ⟨h1, h2, h3⟩ := ofI_ok sel hm j (by omega)
    have hlt := hm j (j + 1) (by omega) hj
    have hstep : ∀ x, (∃ i, i < j + 1 ∧ g i ≤ x ∧ x < g (i + 1) ∧ sel (g i) = true) ↔ (inS (ofI g sel j) x ∨ (g j ≤ x ∧ x < g (j + 1) ∧ sel (g j) = true)) := fun x => by
      rw [h2]
      constructor
      · rintro ⟨i, hi, h⟩
        by_cases e : i = j
        · subst e; exact .inr h
        · exact .inl ⟨i, by omega, h⟩
      · rintro (⟨i, hi, h⟩ | h)
        · exact ⟨i, by omega, h⟩
        · exact ⟨j, by omega, h⟩
    by_cases hs : sel (g j) = true
    · have e : ofI g sel (j + 1) = jo (ofI g sel j) (g j) (g (j + 1)) := by rw [ofI, if_pos hs]
      rw [e]
      simp only [hstep, hs, and_true]
      rcases snoc_cases (ofI g sel j) with e0 | ⟨o, p, e0⟩
      · rw [e0, jo_nil]
        exact ⟨setP_one hlt, fun x => by rw [inS_one]; exact ⟨.inr, fun h => h.elim (fun h => absurd h (inS_nil x)) id⟩, fun q hq => by rw [List.mem_singleton.1 hq]; exact Int.le_refl _⟩
      · rw [e0] at h1 h3 ⊢
        obtain ⟨k1, k2, k3⟩ := setP_snoc.1 h1
        have hp := h3 p (by simp)
        rw [jo_snoc]
        by_cases hc : p.t = g j
        · rw [if_pos hc]
          refine ⟨setP_snoc.2 ⟨k1, by show p.f < g (j + 1); omega, k3⟩, fun x => ?_, fun q hq => ?_⟩
          · rw [inS_append, inS_one, inS_append, inS_one]
            constructor
            · rintro (h | h)
              · exact .inl (.inl h)
              · by_cases hx : x < p.t
                · exact .inl (.inr ⟨h.1, hx⟩)
                · exact .inr ⟨by omega, h.2⟩
            · rintro ((h | h) | h)
              · exact .inl h
              · exact .inr ⟨h.1, by have := h.2; show x < g (j + 1); omega⟩
              · exact .inr ⟨by show p.f ≤ x; omega, h.2⟩
          · rcases List.mem_append.1 hq with hq | hq
            · have := k3 q hq; omega
            · rw [List.mem_singleton.1 hq]; exact Int.le_refl _
        · rw [if_neg hc]
          refine ⟨setP_snoc.2 ⟨h1, hlt, fun q hq => ?_⟩, fun x => ?_, fun q hq => ?_⟩
          · rcases List.mem_append.1 hq with hq | hq
            · have := k3 q hq; show q.t < g j; omega
            · rw [List.mem_singleton.1 hq]; show p.t < g j; omega
          · rw [inS_append, inS_one]
          · rcases List.mem_append.1 hq with hq | hq
            · have := h3 q hq; omega
            · rw [List.mem_singleton.1 hq]; exact Int.le_refl _
    · have e : ofI g sel (j + 1) = ofI g sel j := by rw [ofI, if_neg hs]
      rw [e]
      simp only [hstep]
      exact ⟨h1, fun x => ⟨.inl, fun h => h.elim id (fun h => absurd h.2.2 hs)⟩, fun p hp => by have := h3 p hp; omega⟩
theorem seg_of {g : Nat → Int} {x : Int} : ∀ (d k m : Nat), m = k + d → g k ≤ x → x < g m → ∃ i, k ≤ i ∧ i < m ∧ g i ≤ x ∧ x < g (i + 1)
  | 0, k, m, h, h1, h2 => by rw [Nat.add_zero] at h; subst h; omega
  | d + 1, k, m, h, h1, h2 => by
    by_cases hc : x < g (k + 1)
    · exact ⟨k, Nat.le_refl _, by omega, h1, hc⟩
    · obtain ⟨i, a, b, c⟩ := seg_of d (k + 1) m (by omega) (by omega) h2
      exact ⟨i, by omega, b, c⟩
theorem inS_const {g : Nat → Int} {n i : Nat} {x : Int} {l : List Sp} (hm : ∀ i j, i < j → j < n → g i < g j) (hp : ∀ s, s ∈ l → (∃ k, k < n ∧ g k = s.f) ∧ ∃ m, m < n ∧ g m = s.t) (hi : i + 1 < n) (h1 : g i ≤ x) (h2 : x < g (i + 1)) : inS l x ↔ inS l (g i) := by
  have mono : ∀ k, k < n → (g k ≤ g i ↔ k ≤ i) := fun k hk => by
    rcases Nat.lt_trichotomy k i with h | h | h
    · have := hm k i h (by omega); omega
    · subst h; simp
    · have := hm i k h hk; omega
  have mono2 : ∀ k, k < n → (g (i + 1) ≤ g k ↔ i < k) := fun k hk => by
    rcases Nat.lt_trichotomy k (i + 1) with h | h | h
    · have := hm k (i + 1) h hi; omega
    · subst h; simp
    · have := hm (i + 1) k h hk; omega
  constructor
  · rintro ⟨s, hs, a, b⟩
    obtain ⟨⟨k, hk, ek⟩, m, hm', em⟩ := hp s hs
    refine ⟨s, hs, ?_, by omega⟩
    rcases Nat.lt_or_ge i k with h | h
    · have := (mono2 k hk).2 h; omega
    · have := (mono k hk).2 h; omega
  · rintro ⟨s, hs, a, b⟩
    obtain ⟨⟨k, hk, ek⟩, m, hm', em⟩ := hp s hs
    refine ⟨s, hs, by omega, ?_⟩
    rcases Nat.lt_or_ge i m with h | h
    · have := (mono2 m hm').2 h; omega
    · have := (mono m hm').2 h; omega
/-- What the document's way tells. -/
theorem of_ok {g : Nat → Int} {n : Nat} {a b : List Sp} {sel : Int → Bool} {C : Prop → Prop → Prop} (hm : ∀ i j, i < j → j < n → g i < g j)
    (hp : ∀ s, s ∈ a ++ b → (∃ k, k < n ∧ g k = s.f) ∧ ∃ m, m < n ∧ g m = s.t) (hsel : ∀ v, sel v = true ↔ C (inS a v) (inS b v)) (h0 : ∀ p q, C p q → p ∨ q) (hC : ∀ p q p' q', (p ↔ p') → (q ↔ q') → C p q → C p' q') :
    SetP (ofI g sel (n - 1)) ∧ ∀ x, inS (ofI g sel (n - 1)) x ↔ C (inS a x) (inS b x) := by
  have hpa : ∀ s, s ∈ a → (∃ k, k < n ∧ g k = s.f) ∧ ∃ m, m < n ∧ g m = s.t := fun s hs => hp s (List.mem_append_left _ hs)
  have hpb : ∀ s, s ∈ b → (∃ k, k < n ∧ g k = s.f) ∧ ∃ m, m < n ∧ g m = s.t := fun s hs => hp s (List.mem_append_right _ hs)
  rcases Nat.eq_zero_or_pos n with rfl | hn
  · refine ⟨.nil, fun x => ⟨fun h => absurd h (inS_nil x), fun h => ?_⟩⟩
    rcases h0 _ _ h with ⟨s, hs, _⟩ | ⟨s, hs, _⟩
    · obtain ⟨⟨k, hk, _⟩, _⟩ := hpa s hs; omega
    · obtain ⟨⟨k, hk, _⟩, _⟩ := hpb s hs; omega
  · obtain ⟨k1, k2, _⟩ := ofI_ok sel hm (n - 1) (by omega)
    refine ⟨k1, fun x => (k2 x).trans ⟨?_, fun h => ?_⟩⟩
    · rintro ⟨i, hi, h1, h2, h3⟩
      exact hC _ _ _ _ (inS_const hm hpa (by omega) h1 h2).symm (inS_const hm hpb (by omega) h1 h2).symm ((hsel _).1 h3)
    · have hex : ∃ k m, k < n ∧ m < n ∧ g k ≤ x ∧ x < g m := by
        rcases h0 _ _ h with ⟨s, hs, e1, e2⟩ | ⟨s, hs, e1, e2⟩
        · obtain ⟨⟨k, hk, ek⟩, m, hm', em⟩ := hpa s hs; exact ⟨k, m, hk, hm', by omega, by omega⟩
        · obtain ⟨⟨k, hk, ek⟩, m, hm', em⟩ := hpb s hs; exact ⟨k, m, hk, hm', by omega, by omega⟩
      obtain ⟨k, m, hk, hm', e1, e2⟩ := hex
      have hkm : k < m := by
        rcases Nat.lt_trichotomy k m with h | h | h
        · exact h
        · subst h; omega
        · have := hm m k h hk; omega
      obtain ⟨i, q1, q2, q3, q4⟩ := seg_of (m - k) k m (by omega) e1 e2
      exact ⟨i, by omega, q3, q4, (hsel _).2 (hC _ _ _ _ (inS_const hm hpa (by omega) q3 q4) (inS_const hm hpb (by omega) q3 q4) h)⟩
end Go.Proofs
