/- The plain law of a fold: who holds at an instant. -/
import Derived.Test.YtfnmipagllofiaaGreatFF8
namespace Go.Proofs
open Go.AL Go.Sort

theorem grpL_flat' (p : Dat → Dat → Prop) : ∀ (n : Nat) (l : List Dat), l.length ≤ n → (grpL p l).flatten = l ∧ ∀ g, g ∈ grpL p l → 0 < g.length
  | _, [], _ => by rw [grpL_nil]; exact ⟨rfl, fun g h => by simp at h⟩
  | 0, _ :: _, h => by simp at h
  | n + 1, d :: l, h => by
    have hd := (List.dropWhile_sublist (p := tst p d) (l := l)).length_le
    obtain ⟨h1, h2⟩ := grpL_flat' p n (l.dropWhile (tst p d)) (by simp at h; omega)
    rw [grpL_cons]
    refine ⟨?_, fun g hg => ?_⟩
    · rw [List.flatten_cons, h1, List.cons_append, List.takeWhile_append_dropWhile]
    · rcases List.mem_cons.1 hg with rfl | hg
      · simp
      · exact h2 g hg
theorem foldT_len : ∀ (xs : List (List Dat)) (now sp : List Sp), foldT now xs = some sp → (∀ x, x ∈ xs → 0 < x.length) → sp.length ≤ now.length + 2 * xs.flatten.length
  | [], now, sp, h, _ => by simp [foldT] at h; subst h; omega
  | x :: xs, now, sp, h, hp => by
    rw [foldT_cons] at h
    split at h
    · have := foldT_len xs _ sp h fun y hy => hp y (List.mem_cons_of_mem _ hy)
      have h1 := tn_len now x
      have h2 := hp x List.mem_cons_self
      rw [List.flatten_cons, List.length_append]; omega
    · cases h
theorem foldG_len : ∀ (gs : List (List Dat)) (F : List Fac), foldG gs = some F → (∀ g, g ∈ gs → 0 < g.length) → F.length ≤ gs.flatten.length ∧ ∀ f, f ∈ F → f.sp.length ≤ 2 * gs.flatten.length
  | [], F, h, _ => by simp [foldG] at h; subst h; exact ⟨Nat.zero_le _, fun f hf => by simp at hf⟩
  | g :: gs, F, h, hp => by
    have hg := hp g List.mem_cons_self
    simp only [foldG] at h
    cases h1 : foldT [] (grpL (grP false) g) with
    | none => simp [h1] at h
    | some sp =>
      cases h2 : foldG gs with
      | none => simp [h1, h2] at h
      | some r =>
        simp only [h1, h2, Option.some.injEq] at h
        obtain ⟨k1, k2⟩ := foldG_len gs r h2 fun y hy => hp y (List.mem_cons_of_mem _ hy)
        obtain ⟨f1, f2⟩ := grpL_flat' (grP false) g.length g (Nat.le_refl _)
        have k3 := foldT_len _ _ _ h1 f2
        rw [f1] at k3
        simp only [List.length_nil, Nat.zero_add] at k3
        rw [List.flatten_cons, List.length_append]
        subst h
        by_cases hs : sp.length = 0
        · rw [if_pos hs]
          exact ⟨by rw [List.nil_append]; omega, fun f hf => by have := k2 f hf; omega⟩
        · rw [if_neg hs]
          refine ⟨by rw [List.length_append, List.length_singleton]; omega, fun f hf => ?_⟩
          rcases List.mem_append.1 hf with hf | hf
          · rw [List.mem_singleton.1 hf]; show sp.length ≤ _; omega
          · have := k2 f hf; omega
theorem foldR_len (l : List Dat) : ((foldR l).getD []).length ≤ l.length ∧ ∀ f, f ∈ (foldR l).getD [] → f.sp.length ≤ 2 * l.length := by
  unfold foldR
  split
  · cases h : foldG (grpL (grP true) (dsortL 1 l)) with
    | none => exact ⟨Nat.zero_le _, fun f hf => by simp at hf⟩
    | some F =>
      obtain ⟨f1, f2⟩ := grpL_flat' (grP true) _ (dsortL 1 l) (Nat.le_refl _)
      obtain ⟨k1, k2⟩ := foldG_len _ _ h f2
      rw [f1] at k1 k2
      have := dsortL_len 1 l
      exact ⟨by simp; omega, fun f hf => by have := k2 f (by simpa using hf); omega⟩
  · exact ⟨Nat.zero_le _, fun f hf => by simp at hf⟩
theorem mem_tw {p : Dat → Bool} : ∀ (l : List Dat) {a : Dat}, a ∈ l.takeWhile p → p a = true
  | [], a, h => by simp at h
  | x :: l, a, h => by
    rw [List.takeWhile_cons] at h
    by_cases hx : p x = true
    · rw [if_pos hx] at h
      rcases List.mem_cons.1 h with rfl | h
      · exact hx
      · exact mem_tw l h
    · rw [if_neg hx] at h; simp at h
def covD (d : Dat) (x : Int) : Prop := d.fr ≤ x ∧ x < d.to
/-- The last of some datoms that names an instant adds. -/
def holdP (g : List Dat) (x : Int) : Prop := ∃ d, d ∈ g ∧ d.add = true ∧ covD d x ∧ ∀ d', d' ∈ g → covD d' x → d'.t ≤ d.t
/-- Some do not go together. -/
def confP (g : List Dat) : Prop := ∃ d, d ∈ g ∧ ∃ d', d' ∈ g ∧ d.t = d'.t ∧ d.add = true ∧ d'.add = false ∧ ∃ x, covD d x ∧ covD d' x
theorem inSaid {l : List Dat} {b : Bool} {x : Int} : inS (saidL l b) x ↔ ∃ d, d ∈ l ∧ d.add = b ∧ covD d x := by
  unfold saidL inS covD
  constructor
  · rintro ⟨s, hs, h1, h2⟩
    obtain ⟨d, hd, rfl⟩ := List.mem_map.1 hs
    obtain ⟨h3, h4⟩ := List.mem_filter.1 hd
    exact ⟨d, h3, by simpa using h4, h1, h2⟩
  · rintro ⟨d, hd, h1, h2, h3⟩
    exact ⟨_, List.mem_map.2 ⟨d, List.mem_filter.2 ⟨hd, by simpa using h1⟩, rfl⟩, h2, h3⟩
theorem both_iff {x : List Dat} (ho : okD x) : (bothL x).length = 0 ↔ ∀ y, ¬ (inS (saidL x true) y ∧ inS (saidL x false) y) := by
  obtain ⟨a1, a2⟩ := canS_ok (saidL_ne ho true)
  obtain ⟨b1, b2⟩ := canS_ok (saidL_ne ho false)
  obtain ⟨k1, k2⟩ := and_ok a1 b1
  constructor
  · intro h y hy
    have e : bothL x = [] := List.length_eq_zero_iff.1 h
    have : inS (bothL x) y := (k2 y).2 ⟨(a2 y).2 hy.1, (b2 y).2 hy.2⟩
    rw [e] at this; exact inS_nil y this
  · intro h
    exact meet_nil_of a1 b1 fun y hy => h y ⟨(a2 y).1 hy.1, (b2 y).1 hy.2⟩
/-- Groups by transactions, rising. -/
def tGr (xs : List (List Dat)) : Prop := (∀ x, x ∈ xs → ∀ d, d ∈ x → ∀ d', d' ∈ x → d.t = d'.t) ∧ xs.Pairwise fun x y => ∀ d, d ∈ x → ∀ d', d' ∈ y → d.t < d'.t
theorem foldT_ok : ∀ (xs : List (List Dat)) (now : List Sp), SetP now → rngS now → tGr xs → okD xs.flatten → rgD xs.flatten →
    match foldT now xs with
    | some sp => SetP sp ∧ rngS sp ∧ ¬ confP xs.flatten ∧ ∀ y, inS sp y ↔ (holdP xs.flatten y ∨ (inS now y ∧ ∀ d, d ∈ xs.flatten → ¬ covD d y))
    | none => confP xs.flatten
  | [], now, hn, hr, _, _, _ => ⟨hn, hr, by rintro ⟨d, hd, _⟩; simp at hd, fun y => ⟨fun h => .inr ⟨h, fun d hd => by simp at hd⟩, fun h => h.elim (fun ⟨d, hd, _⟩ => by simp at hd) (fun h => h.1)⟩⟩
  | x :: xs, now, hn, hr, hg, ho, hrg => by
    have hox : okD x := fun d hd => ho d (by simp [hd])
    have hrx : rgD x := fun d hd => hrg d (by simp [hd])
    have hor : okD xs.flatten := fun d hd => ho d (by rw [List.flatten_cons]; exact List.mem_append_right _ hd)
    have hrr : rgD xs.flatten := fun d hd => hrg d (by rw [List.flatten_cons]; exact List.mem_append_right _ hd)
    obtain ⟨g1, g2⟩ := hg
    have hgr : tGr xs := ⟨fun y hy => g1 y (List.mem_cons_of_mem _ hy), (List.pairwise_cons.1 g2).2⟩
    have hx1 := g1 x List.mem_cons_self
    have hlt : ∀ d, d ∈ x → ∀ d', d' ∈ xs.flatten → d.t < d'.t := fun d hd d' hd' => by
      obtain ⟨y, hy, hy2⟩ := List.mem_flatten.1 hd'
      exact (List.pairwise_cons.1 g2).1 y hy d hd d' hy2
    have hmem : ∀ d, d ∈ (x :: xs).flatten ↔ d ∈ x ∨ d ∈ xs.flatten := fun d => by rw [List.flatten_cons, List.mem_append]
    rw [foldT_cons]
    by_cases hb : (bothL x).length = 0
    · rw [if_pos hb]
      have hno := (both_iff hox).1 hb
      obtain ⟨t1, t2, t3⟩ := tn_ok hn hr hox hrx
      have ih := foldT_ok xs (tnL now x) t1 t2 hgr hor hrr
      cases hf : foldT (tnL now x) xs with
      | none =>
        rw [hf] at ih
        obtain ⟨d, hd, d', hd', h⟩ := ih
        exact ⟨d, (hmem d).2 (.inr hd), d', (hmem d').2 (.inr hd'), h⟩
      | some sp =>
        rw [hf] at ih
        obtain ⟨i1, i2, i3, i4⟩ := ih
        refine ⟨i1, i2, ?_, fun y => ?_⟩
        · rintro ⟨d, hd, d', hd', e, h1, h2, z, hz1, hz2⟩
          rcases (hmem d).1 hd with k | k <;> rcases (hmem d').1 hd' with k' | k'
          · exact hno z ⟨inSaid.2 ⟨d, k, h1, hz1⟩, inSaid.2 ⟨d', k', h2, hz2⟩⟩
          · have := hlt d k d' k'; omega
          · have := hlt d' k' d k; omega
          · exact i3 ⟨d, k, d', k', e, h1, h2, z, hz1, hz2⟩
        · rw [i4, t3]
          constructor
          · rintro (⟨d, hd, h1, h2, h3⟩ | ⟨⟨h1, h2⟩, h3⟩)
            · refine .inl ⟨d, (hmem d).2 (.inr hd), h1, h2, fun d' hd' hc => ?_⟩
              rcases (hmem d').1 hd' with k | k
              · have := hlt d' k d hd; omega
              · exact h3 d' k hc
            · by_cases hi : inS (saidL x true) y
              · obtain ⟨d, hd, k1, k2⟩ := inSaid.1 hi
                refine .inl ⟨d, (hmem d).2 (.inl hd), k1, k2, fun d' hd' hc => ?_⟩
                rcases (hmem d').1 hd' with k | k
                · exact Int.le_of_eq (hx1 d' k d hd)
                · exact absurd hc (h3 d' k)
              · refine .inr ⟨h1.resolve_right hi, fun d hd hc => ?_⟩
                rcases (hmem d).1 hd with k | k
                · cases ha : d.add with
                  | true => exact hi (inSaid.2 ⟨d, k, ha, hc⟩)
                  | false => exact h2 (inSaid.2 ⟨d, k, ha, hc⟩)
                · exact h3 d k hc
          · rintro (⟨d, hd, h1, h2, h3⟩ | ⟨h1, h2⟩)
            · rcases (hmem d).1 hd with k | k
              · refine .inr ⟨⟨.inr (inSaid.2 ⟨d, k, h1, h2⟩), fun hout => hno y ⟨inSaid.2 ⟨d, k, h1, h2⟩, hout⟩⟩, fun d' hd' hc => ?_⟩
                have e1 := h3 d' ((hmem d').2 (.inr hd')) hc
                have e2 := hlt d k d' hd'
                omega
              · exact .inl ⟨d, k, h1, h2, fun d' hd' hc => h3 d' ((hmem d').2 (.inr hd')) hc⟩
            · refine .inr ⟨⟨.inl h1, fun hout => ?_⟩, fun d hd hc => h2 d ((hmem d).2 (.inr hd)) hc⟩
              obtain ⟨d, hd, _, hc⟩ := inSaid.1 hout
              exact h2 d ((hmem d).2 (.inl hd)) hc
    · rw [if_neg hb]
      have h1 : ¬ ∀ y, ¬ (inS (saidL x true) y ∧ inS (saidL x false) y) := fun h => hb ((both_iff hox).2 h)
      obtain ⟨y, hy⟩ := Classical.not_forall.1 h1
      obtain ⟨hy1, hy2⟩ := Classical.not_not.1 hy
      obtain ⟨d, hd, k1, k2⟩ := inSaid.1 hy1
      obtain ⟨d', hd', k3, k4⟩ := inSaid.1 hy2
      exact ⟨d, (hmem d).2 (.inl hd), d', (hmem d').2 (.inl hd'), hx1 d hd d' hd', k1, k3, y, k2, k4⟩
/-- What the groups of a list have in common, if it is sorted by a relation that goes with being alike. -/
theorem grpL_tGr : ∀ (n : Nat) (g : List Dat), g.length ≤ n → (∀ d, d ∈ g → ∀ d', d' ∈ g → alP d d') → g.Pairwise (fun a b => a.t ≤ b.t) → tGr (grpL (grP false) g)
  | _, [], _, _, _ => by rw [grpL_nil]; exact ⟨fun x hx => by simp at hx, List.Pairwise.nil⟩
  | 0, _ :: _, h, _, _ => by simp at h
  | n + 1, d :: l, hn, hal, hs => by
    have hd := List.dropWhile_sublist (p := tst (grP false) d) (l := l)
    have ht := List.takeWhile_sublist (p := tst (grP false) d) (l := l)
    obtain ⟨s1, s2⟩ := List.pairwise_cons.1 hs
    obtain ⟨i1, i2⟩ := grpL_tGr n (l.dropWhile (tst (grP false) d)) (by have := hd.length_le; simp at hn; omega) (fun a ha b hb => hal a (List.mem_cons_of_mem _ (hd.subset ha)) b (List.mem_cons_of_mem _ (hd.subset hb))) (s2.sublist hd)
    rw [grpL_cons]
    have hx : ∀ a, a ∈ d :: l.takeWhile (tst (grP false) d) → a.t = d.t := fun a ha => by
      rcases List.mem_cons.1 ha with rfl | ha
      · rfl
      · have := tst_t.1 (mem_tw l ha)
        rcases this.2 with h | h
        · cases h
        · exact h.symm
    have hgt : ∀ b, b ∈ l.dropWhile (tst (grP false) d) → d.t < b.t := fun b hb => by
      cases hdw : l.dropWhile (tst (grP false) d) with
      | nil => rw [hdw] at hb; simp at hb
      | cons c r =>
        have hc : ¬ grP false d c := by
          have := List.head?_dropWhile_not (tst (grP false) d) l
          rw [hdw] at this
          simp at this
          exact tst_f.1 this
        have hcl : c ∈ l := hd.subset (by rw [hdw]; simp)
        have hct : d.t < c.t := by
          have h1 := s1 c hcl
          rcases Int.lt_or_eq_of_le h1 with h | h
          · exact h
          · exact absurd ⟨hal d List.mem_cons_self c (List.mem_cons_of_mem _ hcl), .inr h⟩ hc
        rw [hdw] at hb
        rcases List.mem_cons.1 hb with rfl | hb
        · exact hct
        · have := s2.sublist hd
          rw [hdw] at this
          have := (List.pairwise_cons.1 this).1 b hb
          omega
    refine ⟨fun x hx0 => ?_, List.pairwise_cons.2 ⟨fun y hy a ha b hb => ?_, i2⟩⟩
    · rcases List.mem_cons.1 hx0 with rfl | hx0
      · exact fun a ha b hb => (hx a ha).trans (hx b hb).symm
      · exact i1 x hx0
    · rw [hx a ha]
      refine hgt b ?_
      have := (grpL_flat' (grP false) _ (l.dropWhile (tst (grP false) d)) (Nat.le_refl _)).1
      rw [← this]
      exact List.mem_flatten.2 ⟨y, hy, hb⟩
end Go.Proofs
