/- The plain law of a fold: who holds at an instant. -/
import Derived.Test.YtfnmipagllofiaaGreatFF8
namespace Go.Proofs
open Go.AL Go.Sort
theorem grpL_flat' (p : Dat → Dat → Prop) : ∀ (n : Nat) (l : List Dat), l.length ≤ n → (grpL p l).flatten = l ∧ ∀ g, g ∈ grpL p l → 0 < g.length
  | _, [], _ => by rw [grpL_nil]; exact ⟨rfl, fun g h => by simp at h⟩
  | 0, _ :: _, h => by simp at h
  | n + 1, d :: l, h => by
    have hd := (List.dropWhile_sublist (p := tst p d) (l := l)).length_le
    obtain ⟨h1, h2⟩ := grpL_flat' p n (l.dropWhile (tst p d)) (by simp at h; omega)
    rw [grpL_cons]
    refine ⟨?_, fun g hg => ?_⟩
    · rw [List.flatten_cons, h1, List.cons_append, List.takeWhile_append_dropWhile]
    · rcases List.mem_cons.1 hg with rfl | hg
      · simp
      · exact h2 g hg
theorem foldT_len : ∀ (xs : List (List Dat)) (now sp : List Sp), foldT now xs = some sp → (∀ x, x ∈ xs → 0 < x.length) → sp.length ≤ now.length + 2 * xs.flatten.length
  | [], now, sp, h, _ => by simp [foldT] at h; subst h; omega
  | x :: xs, now, sp, h, hp => by
    rw [foldT_cons] at h
    split at h
    · have := foldT_len xs _ sp h fun y hy => hp y (List.mem_cons_of_mem _ hy)
      have h1 := tn_len now x
      have h2 := hp x List.mem_cons_self
      rw [List.flatten_cons, List.length_append]; omega
    · cases h
theorem foldG_len : ∀ (gs : List (List Dat)) (F : List Fac), foldG gs = some F → (∀ g, g ∈ gs → 0 < g.length) → F.length ≤ gs.flatten.length ∧ ∀ f, f ∈ F → f.sp.length ≤ 2 * gs.flatten.length
  | [], F, h, _ => by simp [foldG] at h; subst h; exact ⟨Nat.zero_le _, fun f hf => by simp at hf⟩
  | g :: gs, F, h, hp => by
    have hg := hp g List.mem_cons_self
    simp only [foldG] at h
    cases h1 : foldT [] (grpL (grP false) g) with
    | none => simp [h1] at h
    | some sp =>
      cases h2 : foldG gs with
      | none => simp [h1, h2] at h
      | some r =>
        simp only [h1, h2, Option.some.injEq] at h
        obtain ⟨k1, k2⟩ := foldG_len gs r h2 fun y hy => hp y (List.mem_cons_of_mem _ hy)
        obtain ⟨f1, f2⟩ := grpL_flat' (grP false) g.length g (Nat.le_refl _)
        have k3 := foldT_len _ _ _ h1 f2
        rw [f1] at k3
        simp only [List.length_nil, Nat.zero_add] at k3
        rw [List.flatten_cons, List.length_append]
        subst h
        by_cases hs : sp.length = 0
        · rw [if_pos hs]
          exact ⟨by rw [List.nil_append]; omega, fun f hf => by have := k2 f hf; omega⟩
        · rw [if_neg hs]
          refine ⟨by rw [List.length_append, List.length_singleton]; omega, fun f hf => ?_⟩
          rcases List.mem_append.1 hf with hf | hf
          · rw [List.mem_singleton.1 hf]; show sp.length ≤ _; omega
          · have := k2 f hf; omega
theorem foldR_len (l : List Dat) : ((foldR l).getD []).length ≤ l.length ∧ ∀ f, f ∈ (foldR l).getD [] → f.sp.length ≤ 2 * l.length := by
  unfold foldR
  split
  · cases h : foldG (grpL (grP true) (dsortL 1 l)) with
    | none => exact ⟨Nat.zero_le _, fun f hf => by simp at hf⟩
    | some F =>
      obtain ⟨f1, f2⟩ := grpL_flat' (grP true) _ (dsortL 1 l) (Nat.le_refl _)
      obtain ⟨k1, k2⟩ := foldG_len _ _ h f2
      rw [f1] at k1 k2
      have := dsortL_len 1 l
      exact ⟨by simp; omega, fun f hf => by have := k2 f (by simpa using hf); omega⟩
  · exact ⟨Nat.zero_le _, fun f hf => by simp at hf⟩
theorem mem_tw {p : Dat → Bool} : ∀ (l : List Dat) {a : Dat}, a ∈ l.takeWhile p → p a = true
  | [], a, h => by simp at h
  | x :: l, a, h => by
    rw [List.takeWhile_cons] at h
    by_cases hx : p x = true
    · rw [if_pos hx] at h
      rcases List.mem_cons.1 h with rfl | h
      · exact hx
      · exact mem_tw l h
    · rw [if_neg hx] at h; simp at h
def covD (d : Dat) (x : Int) : Prop := d.fr ≤ x ∧ x < d.to
def holdP (g : List Dat) (x : Int) : Prop := ∃ d, d ∈ g ∧ d.add = true ∧ covD d x ∧ ∀ d', d' ∈ g → covD d' x → d'.t ≤ d.t
def confP (g : List Dat) : Prop := ∃ d, d ∈ g ∧ ∃ d', d' ∈ g ∧ d.t = d'.t ∧ d.add = true ∧ d'.add = false ∧ ∃ x, covD d x ∧ covD d' x
theorem inSaid {l : List Dat} {b : Bool} {x : Int} : inS (saidL l b) x ↔ ∃ d, d ∈ l ∧ d.add = b ∧ covD d x := by
  unfold saidL inS covD
  constructor
  · rintro ⟨s, hs, h1, h2⟩
    obtain ⟨d, hd, rfl⟩ := List.mem_map.1 hs
    obtain ⟨h3, h4⟩ := List.mem_filter.1 hd
    exact ⟨d, h3, by simpa using h4, h1, h2⟩
  · rintro ⟨d, hd, h1, h2, h3⟩
    exact ⟨_, List.mem_map.2 ⟨d, List.mem_filter.2 ⟨hd, by simpa using h1⟩, rfl⟩, h2, h3⟩
theorem both_iff {x : List Dat} (ho : okD x) : (bothL x).length = 0 ↔ ∀ y, ¬ (inS (saidL x true) y ∧ inS (saidL x false) y) := by
  obtain ⟨a1, a2⟩ := canS_ok (saidL_ne ho true)
  obtain ⟨b1, b2⟩ := canS_ok (saidL_ne ho false)
  obtain ⟨k1, k2⟩ := and_ok a1 b1
  constructor
  · intro h y hy
    have e : bothL x = [] := List.length_eq_zero_iff.1 h
    have : inS (bothL x) y := (k2 y).2 ⟨(a2 y).2 hy.1, (b2 y).2 hy.2⟩
    rw [e] at this; exact inS_nil y this
  · intro h
    exact meet_nil_of a1 b1 fun y hy => h y ⟨(a2 y).1 hy.1, (b2 y).1 hy.2⟩
def tGr (xs : List (List Dat)) : Prop := (∀ x, x ∈ xs → ∀ d, d ∈ x → ∀ d', d' ∈ x → d.t = d'.t) ∧ xs.Pairwise fun x y => ∀ d, d ∈ x → ∀ d', d' ∈ y → d.t < d'.t
theorem foldT_ok : ∀ (xs : List (List Dat)) (now : List Sp), SetP now → rngS now → tGr xs → okD xs.flatten → rgD xs.flatten →
    match foldT now xs with
    | some sp => SetP sp ∧ rngS sp ∧ ¬ confP xs.flatten ∧ ∀ y, inS sp y ↔ (holdP xs.flatten y ∨ (inS now y ∧ ∀ d, d ∈ xs.flatten → ¬ covD d y))
    | none => confP xs.flatten
  | [], now, hn, hr, _, _, _ => ⟨hn, hr, by rintro ⟨d, hd, _⟩; simp at hd, fun y => ⟨fun h => .inr ⟨h, fun d hd => by simp at hd⟩, fun h => h.elim (fun ⟨d, hd, _⟩ => by simp at hd) (fun h => h.1)⟩⟩
  | x :: xs, now, hn, hr, hg, ho, hrg => by
    have hox : okD x := fun d hd => ho d (by simp [hd])
    have hrx : rgD x := fun d hd => hrg d (by simp [hd])
    have hor : okD xs.flatten := fun d hd => ho d (by rw [List.flatten_cons]; exact List.mem_append_right _ hd)
    have hrr : rgD xs.flatten := fun d hd => hrg d (by rw [List.flatten_cons]; exact List.mem_append_right _ hd)
    obtain ⟨g1, g2⟩ := hg
    have hgr : tGr xs := ⟨fun y hy => g1 y (List.mem_cons_of_mem _ hy), (List.pairwise_cons.1 g2).2⟩
    have hx1 := g1 x List.mem_cons_self
    have hlt : ∀ d, d ∈ x → ∀ d', d' ∈ xs.flatten → d.t < d'.t := fun d hd d' hd' => by
      obtain ⟨y, hy, hy2⟩ := List.mem_flatten.1 hd'
      exact (List.pairwise_cons.1 g2).1 y hy d hd d' hy2
    have hmem : ∀ d, d ∈ (x :: xs).flatten ↔ d ∈ x ∨ d ∈ xs.flatten := fun d => by rw [List.flatten_cons, List.mem_append]
    rw [foldT_cons]
    by_cases hb : (bothL x).length = 0
    · rw [if_pos hb]
      have hno := (both_iff hox).1 hb
      obtain ⟨t1, t2, t3⟩ := tn_ok hn hr hox hrx
      have ih := foldT_ok xs (tnL now x) t1 t2 hgr hor hrr
      cases hf : foldT (tnL now x) xs with
      | none =>
        rw [hf] at ih
        obtain ⟨d, hd, d', hd', h⟩ := ih
        exact ⟨d, (hmem d).2 (.inr hd), d', (hmem d').2 (.inr hd'), h⟩
      | some sp =>
        rw [hf] at ih
        obtain ⟨i1, i2, i3, i4⟩ := ih
        refine ⟨i1, i2, ?_, fun y => ?_⟩
        · rintro ⟨d, hd, d', hd', e, h1, h2, z, hz1, hz2⟩
          rcases (hmem d).1 hd with k | k <;> rcases (hmem d').1 hd' with k' | k'
          · exact hno z ⟨inSaid.2 ⟨d, k, h1, hz1⟩, inSaid.2 ⟨d', k', h2, hz2⟩⟩
          · have := hlt d k d' k'; omega
          · have := hlt d' k' d k; omega
          · exact i3 ⟨d, k, d', k', e, h1, h2, z, hz1, hz2⟩
        · rw [i4, t3]
          constructor
          · rintro (⟨d, hd, h1, h2, h3⟩ | ⟨⟨h1, h2⟩, h3⟩)
            · refine .inl ⟨d, (hmem d).2 (.inr hd), h1, h2, fun d' hd' hc => ?_⟩
              rcases (hmem d').1 hd' with k | k
              · have := hlt d' k d hd; omega
              · exact h3 d' k hc
            · by_cases hi : inS (saidL x true) y
              · obtain ⟨d, hd, k1, k2⟩ := inSaid.1 hi
                refine .inl ⟨d, (hmem d).2 (.inl hd), k1, k2, fun d' hd' hc => ?_⟩
                rcases (hmem d').1 hd' with k | k
                · exact Int.le_of_eq (hx1 d' k d hd)
                · exact absurd hc (h3 d' k)
              · refine .inr ⟨h1.resolve_right hi, fun d hd hc => ?_⟩
                rcases (hmem d).1 hd with k | k
                · cases ha : d.add with
                  | true => exact hi (inSaid.2 ⟨d, k, ha, hc⟩)
                  | false => exact h2 (inSaid.2 ⟨d, k, ha, hc⟩)
                · exact h3 d k hc
          · rintro (⟨d, hd, h1, h2, h3⟩ | ⟨h1, h2⟩)
            · rcases (hmem d).1 hd with k | k
              · refine .inr ⟨⟨.inr (inSaid.2 ⟨d, k, h1, h2⟩), fun hout => hno y ⟨inSaid.2 ⟨d, k, h1, h2⟩, hout⟩⟩, fun d' hd' hc => ?_⟩
                have e1 := h3 d' ((hmem d').2 (.inr hd')) hc
                have e2 := hlt d k d' hd'
                omega
              · exact .inl ⟨d, k, h1, h2, fun d' hd' hc => h3 d' ((hmem d').2 (.inr hd')) hc⟩
            · refine .inr ⟨⟨.inl h1, fun hout => ?_⟩, fun d hd hc => h2 d ((hmem d).2 (.inr hd)) hc⟩
              obtain ⟨d, hd, _, hc⟩ := inSaid.1 hout
              exact h2 d ((hmem d).2 (.inl hd)) hc
    · rw [if_neg hb]
      have h1 : ¬ ∀ y, ¬ (inS (saidL x true) y ∧ inS (saidL x false) y) := fun h => hb ((both_iff hox).2 h)
      obtain ⟨y, hy⟩ := Classical.not_forall.1 h1
      obtain ⟨hy1, hy2⟩ := Classical.not_not.1 hy
      obtain ⟨d, hd, k1, k2⟩ := inSaid.1 hy1
      obtain ⟨d', hd', k3, k4⟩ := inSaid.1 hy2
      exact ⟨d, (hmem d).2 (.inl hd), d', (hmem d').2 (.inl hd'), hx1 d hd d' hd', k1, k3, y, k2, k4⟩
theorem grpL_tGr : ∀ (n : Nat) (g : List Dat), g.length ≤ n → (∀ d, d ∈ g → ∀ d', d' ∈ g → alP d d') → g.Pairwise (fun a b => a.t ≤ b.t) → tGr (grpL (grP false) g)
  | _, [], _, _, _ => by rw [grpL_nil]; exact ⟨fun x hx => by simp at hx, List.Pairwise.nil⟩
  | 0, _ :: _, h, _, _ => by simp at h
  | n + 1, d :: l, hn, hal, hs => by
    have hd := List.dropWhile_sublist (p := tst (grP false) d) (l := l)
    have ht := List.takeWhile_sublist (p := tst (grP false) d) (l := l)
    obtain ⟨s1, s2⟩ := List.pairwise_cons.1 hs
    obtain ⟨i1, i2⟩ := grpL_tGr n (l.dropWhile (tst (grP false) d)) (by have := hd.length_le; simp at hn; omega) (fun a ha b hb => hal a (List.mem_cons_of_mem _ (hd.subset ha)) b (List.mem_cons_of_mem _ (hd.subset hb))) (s2.sublist hd)
    rw [grpL_cons]
    have hx : ∀ a, a ∈ d :: l.takeWhile (tst (grP false) d) → a.t = d.t := fun a ha => by
      rcases List.mem_cons.1 ha with rfl | ha
      · rfl
      · have := tst_t.1 (mem_tw l ha)
        rcases this.2 with h | h
        · cases h
        · exact h.symm
    have hgt : ∀ b, b ∈ l.dropWhile (tst (grP false) d) → d.t < b.t := fun b hb => by
      cases hdw : l.dropWhile (tst (grP false) d) with
      | nil => rw [hdw] at hb; simp at hb
      | cons c r =>
        have hc : ¬ grP false d c := by
          have := List.head?_dropWhile_not (tst (grP false) d) l
          rw [hdw] at this
          simp at this
          exact tst_f.1 this
        have hcl : c ∈ l := hd.subset (by rw [hdw]; simp)
        have hct : d.t < c.t := by
          have h1 := s1 c hcl
          rcases Int.lt_or_eq_of_le h1 with h | h
          · exact h
          · exact absurd ⟨hal d List.mem_cons_self c (List.mem_cons_of_mem _ hcl), .inr h⟩ hc
        rw [hdw] at hb
        rcases List.mem_cons.1 hb with rfl | hb
        · exact hct
        · have := s2.sublist hd
          rw [hdw] at this
          have := (List.pairwise_cons.1 this).1 b hb
          omega
    refine ⟨fun x hx0 => ?_, List.pairwise_cons.2 ⟨fun y hy a ha b hb => ?_, i2⟩⟩
    · rcases List.mem_cons.1 hx0 with rfl | hx0
      · exact fun a ha b hb => (hx a ha).trans (hx b hb).symm
      · exact i1 x hx0
    · rw [hx a ha]
      refine hgt b ?_
      have := (grpL_flat' (grP false) _ (l.dropWhile (tst (grP false) d)) (Nat.le_refl _)).1
      rw [← this]
      exact List.mem_flatten.2 ⟨y, hy, hb⟩
end Go.Proofs

namespace Go.Proofs
open Go.AL Go.Sort
def keyF (d : Dat) : Fac := ⟨d.e, d.a, d.v, []⟩
theorem alP_iff {a b : Dat} : alP a b ↔ cmpF (keyF a) (keyF b) = 0 := by rw [cmpF_z]; exact Iff.rfl
theorem alP.sym {a b : Dat} (h : alP a b) : alP b a := ⟨h.1.symm, h.2.1.symm, h.2.2.symm⟩
theorem alP.trans {a b c : Dat} (h : alP a b) (h' : alP b c) : alP a c := ⟨h.1.trans h'.1, h.2.1.trans h'.2.1, h.2.2.trans h'.2.2⟩
theorem cmpF_if (a b : Fac) : cmpF a b = if cmpI a.e b.e = 0 then (if cmpI a.a b.a = 0 then cmpV a.v b.v else cmpI a.a b.a) else cmpI a.e b.e := by
  simp only [cmpF, orI]
  split
  · split
    · split
      · rename_i h; exact h.symm
      · rfl
    · rfl
  · rfl
theorem cmpI_neg {a b : Int} (h : cmpI a b < 0) : a < b := by
  unfold cmpI at h
  split at h
  · assumption
  · split at h <;> omega
def stP (a b : Dat) : Prop := cmpF (keyF a) (keyF b) ≤ 0 ∧ (alP a b → a.t ≤ b.t)
theorem stP_of {a b : Dat} (h : cmpD 1 a b < 0) : stP a b := by
  have e : cmpD 1 a b = if cmpI a.e b.e = 0 then (if cmpI a.a b.a = 0 then (if cmpV a.v b.v = 0 then (if cmpI a.t b.t = 0 then cmpPs [prtN (if a.add then 0 else 1), prtN a.fr, prtN a.to] [prtN (if b.add then 0 else 1), prtN b.fr, prtN b.to] else cmpI a.t b.t) else cmpV a.v b.v) else cmpI a.a b.a) else cmpI a.e b.e := rfl
  have ek : cmpF (keyF a) (keyF b) = if cmpI a.e b.e = 0 then (if cmpI a.a b.a = 0 then cmpV a.v b.v else cmpI a.a b.a) else cmpI a.e b.e := cmpF_if (keyF a) (keyF b)
  rw [e] at h
  unfold stP
  rw [ek]
  split at h
  · rename_i h1
    rw [if_pos h1]
    split at h
    · rename_i h2
      rw [if_pos h2]
      split at h
      · rename_i h3
        refine ⟨by omega, fun _ => ?_⟩
        split at h
        · rename_i h4
          have := (cmpI_z _ _).1 h4; omega
        · have := cmpI_neg h; omega
      · rename_i h3
        refine ⟨by omega, fun k => ?_⟩
        exact absurd ((cmpV_z _ _).2 k.2.2) h3
    · rename_i h2
      rw [if_neg h2]
      exact ⟨by omega, fun k => absurd ((cmpI_z _ _).2 k.2.1) h2⟩
  · rename_i h1
    rw [if_neg h1]
    exact ⟨by omega, fun k => absurd ((cmpI_z _ _).2 k.1) h1⟩
def kGr (gs : List (List Dat)) : Prop := (∀ g, g ∈ gs → 0 < g.length ∧ (∀ d, d ∈ g → ∀ d', d' ∈ g → alP d d') ∧ g.Pairwise fun a b => a.t ≤ b.t) ∧ gs.Pairwise fun x y => ∀ d, d ∈ x → ∀ d', d' ∈ y → cmpF (keyF d) (keyF d') < 0
theorem grpL_kGr : ∀ (n : Nat) (l : List Dat), l.length ≤ n → l.Pairwise stP → kGr (grpL (grP true) l)
  | _, [], _, _ => by rw [grpL_nil]; exact ⟨fun x hx => by simp at hx, List.Pairwise.nil⟩
  | 0, _ :: _, h, _ => by simp at h
  | n + 1, d :: l, hn, hs => by
    have hd := List.dropWhile_sublist (p := tst (grP true) d) (l := l)
    have ht := List.takeWhile_sublist (p := tst (grP true) d) (l := l)
    obtain ⟨s1, s2⟩ := List.pairwise_cons.1 hs
    obtain ⟨i1, i2⟩ := grpL_kGr n (l.dropWhile (tst (grP true) d)) (by have := hd.length_le; simp at hn; omega) (s2.sublist hd)
    rw [grpL_cons]
    have hx : ∀ a, a ∈ d :: l.takeWhile (tst (grP true) d) → alP d a := fun a ha => by
      rcases List.mem_cons.1 ha with rfl | ha
      · exact ⟨rfl, rfl, rfl⟩
      · exact (tst_t.1 (mem_tw l ha)).1
    have hgt : ∀ b, b ∈ l.dropWhile (tst (grP true) d) → cmpF (keyF d) (keyF b) < 0 := fun b hb => by
      cases hdw : l.dropWhile (tst (grP true) d) with
      | nil => rw [hdw] at hb; simp at hb
      | cons c r =>
        have hc : ¬ grP true d c := by
          have := List.head?_dropWhile_not (tst (grP true) d) l
          rw [hdw] at this
          simp at this
          exact tst_f.1 this
        have hcl : c ∈ l := hd.subset (by rw [hdw]; simp)
        have hct : cmpF (keyF d) (keyF c) < 0 := by
          have h1 := (s1 c hcl).1
          rcases Int.lt_or_eq_of_le h1 with h | h
          · exact h
          · exact absurd ⟨alP_iff.2 h, .inl rfl⟩ hc
        rw [hdw] at hb
        rcases List.mem_cons.1 hb with rfl | hb
        · exact hct
        · have := s2.sublist hd
          rw [hdw] at this
          have := ((List.pairwise_cons.1 this).1 b hb).1
          exact wc_cmpF.lt (by omega) this (.inl hct)
    refine ⟨fun x hx0 => ?_, List.pairwise_cons.2 ⟨fun y hy a ha b hb => ?_, i2⟩⟩
    · rcases List.mem_cons.1 hx0 with rfl | hx0
      · have hal : ∀ a, a ∈ d :: l.takeWhile (tst (grP true) d) → ∀ b, b ∈ d :: l.takeWhile (tst (grP true) d) → alP a b := fun a ha b hb => (hx a ha).sym.trans (hx b hb)
        refine ⟨by simp, hal, ?_⟩
        have hp : (d :: l.takeWhile (tst (grP true) d)).Pairwise stP := hs.sublist (ht.cons_cons d)
        rw [List.pairwise_iff_getElem] at hp ⊢
        exact fun i j hi hj hij => (hp i j hi hj hij).2 (hal _ (List.getElem_mem hi) _ (List.getElem_mem hj))
      · exact i1 x hx0
    · have hb' : b ∈ l.dropWhile (tst (grP true) d) := by
        have := (grpL_flat' (grP true) _ (l.dropWhile (tst (grP true) d)) (Nat.le_refl _)).1
        rw [← this]
        exact List.mem_flatten.2 ⟨y, hy, hb⟩
      have h1 := hgt b hb'
      have h2 : cmpF (keyF a) (keyF d) = 0 := alP_iff.1 (hx a ha).sym
      exact wc_cmpF.lt (by omega) (by omega : cmpF (keyF d) (keyF b) ≤ 0) (.inr h1)
def holdK (S : List Dat) (k : Fac) (y : Int) : Prop := ∃ d, d ∈ S ∧ cmpF (keyF d) k = 0 ∧ d.add = true ∧ covD d y ∧ ∀ d', d' ∈ S → cmpF (keyF d') k = 0 → covD d' y → d'.t ≤ d.t
def confK (S : List Dat) : Prop := ∃ d, d ∈ S ∧ ∃ d', d' ∈ S ∧ alP d d' ∧ d.t = d'.t ∧ d.add = true ∧ d'.add = false ∧ ∃ x, covD d x ∧ covD d' x
theorem cmpF_eq0 {a b c : Fac} (h : cmpF a b = 0) (h' : cmpF b c = 0) : cmpF a c = 0 := by
  rw [cmpF_z] at *
  exact ⟨h.1.trans h'.1, h.2.1.trans h'.2.1, h.2.2.trans h'.2.2⟩
theorem cmpF_sym {a b : Fac} (h : cmpF a b = 0) : cmpF b a = 0 := by
  rw [cmpF_z] at *
  exact ⟨h.1.symm, h.2.1.symm, h.2.2.symm⟩
theorem foldG_ok2 : ∀ (gs : List (List Dat)), kGr gs → okD gs.flatten → rgD gs.flatten →
    match foldG gs with
    | some F => riseF F ∧ (∀ f, f ∈ F → (∃ d, d ∈ gs.flatten ∧ cmpF f (keyF d) = 0) ∧ SetP f.sp ∧ rngS f.sp ∧ 0 < f.sp.length) ∧ ¬ confK gs.flatten ∧ ∀ k y, (∃ f, f ∈ F ∧ cmpF f k = 0 ∧ inS f.sp y) ↔ holdK gs.flatten k y
    | none => confK gs.flatten
  | [], _, _, _ => ⟨List.Pairwise.nil, fun f hf => by simp at hf, by rintro ⟨d, hd, _⟩; simp at hd, fun k y => ⟨fun ⟨f, hf, _⟩ => by simp at hf, fun ⟨d, hd, _⟩ => by simp at hd⟩⟩
  | g :: gs, hk, ho, hr => by
    obtain ⟨k1, k2⟩ := hk
    obtain ⟨g0, g1, g2⟩ := k1 g List.mem_cons_self
    have hmem : ∀ d, d ∈ (g :: gs).flatten ↔ d ∈ g ∨ d ∈ gs.flatten := fun d => by rw [List.flatten_cons, List.mem_append]
    have hog : okD g := fun d hd => ho d ((hmem d).2 (.inl hd))
    have hrg : rgD g := fun d hd => hr d ((hmem d).2 (.inl hd))
    have ih := foldG_ok2 gs ⟨fun x hx => k1 x (List.mem_cons_of_mem _ hx), (List.pairwise_cons.1 k2).2⟩ (fun d hd => ho d ((hmem d).2 (.inr hd))) (fun d hd => hr d ((hmem d).2 (.inr hd)))
    have hlt : ∀ d, d ∈ g → ∀ d', d' ∈ gs.flatten → cmpF (keyF d) (keyF d') < 0 := fun d hd d' hd' => by
      obtain ⟨y, hy, hy2⟩ := List.mem_flatten.1 hd'
      exact (List.pairwise_cons.1 k2).1 y hy d hd d' hy2
    have hfl := (grpL_flat' (grP false) _ g (Nat.le_refl _)).1
    have hT := foldT_ok (grpL (grP false) g) [] .nil (fun s hs => by simp at hs) (grpL_tGr _ g (Nat.le_refl _) g1 g2) (by rw [hfl]; exact hog) (by rw [hfl]; exact hrg)
    rw [hfl] at hT
    simp only [foldG]
    cases hf : foldT [] (grpL (grP false) g) with
    | none =>
      rw [hf] at hT
      obtain ⟨d, hd, d', hd', h⟩ := hT
      exact ⟨d, (hmem d).2 (.inl hd), d', (hmem d').2 (.inl hd'), g1 d hd d' hd', h⟩
    | some sp =>
      rw [hf] at hT
      obtain ⟨t1, t2, t3, t4⟩ := hT
      cases hg : foldG gs with
      | none =>
        rw [hg] at ih
        obtain ⟨d, hd, d', hd', h⟩ := ih
        exact ⟨d, (hmem d).2 (.inr hd), d', (hmem d').2 (.inr hd'), h⟩
      | some F =>
        rw [hg] at ih
        obtain ⟨i1, i2, i3, i4⟩ := ih
        obtain ⟨d0, hd0, hdh⟩ : ∃ d0, d0 ∈ g ∧ g.headD dat0 = d0 := by
          cases g with
          | nil => simp at g0
          | cons d l => exact ⟨d, List.mem_cons_self, rfl⟩
        have hkey : ∀ d, d ∈ g → cmpF (keyF d) (keyF d0) = 0 := fun d hd => alP_iff.1 (g1 d hd d0 hd0)
        simp only [hdh]
        have hno : ¬ confK (g :: gs).flatten := by
          rintro ⟨d, hd, d', hd', ha, h⟩
          rcases (hmem d).1 hd with q | q <;> rcases (hmem d').1 hd' with q' | q'
          · exact t3 ⟨d, q, d', q', h⟩
          · have := hlt d q d' q'; have := alP_iff.1 ha; omega
          · have := hlt d' q' d q; have := alP_iff.1 ha.sym; omega
          · exact i3 ⟨d, q, d', q', ha, h⟩
        have hhold : ∀ k y, holdK (g :: gs).flatten k y ↔ (cmpF (keyF d0) k = 0 ∧ inS sp y) ∨ holdK gs.flatten k y := fun k y => by
          have e4 : inS sp y ↔ holdP g y := (t4 y).trans ⟨fun h => h.elim id fun h => absurd h.1 (inS_nil y), .inl⟩
          rw [e4]
          constructor
          · rintro ⟨d, hd, h1, h2, h3, h4⟩
            rcases (hmem d).1 hd with q | q
            · exact .inl ⟨cmpF_eq0 (cmpF_sym (hkey d q)) h1, d, q, h2, h3, fun d' hd' hc => h4 d' ((hmem d').2 (.inl hd')) (cmpF_eq0 (cmpF_eq0 (hkey d' hd') (cmpF_sym (hkey d q))) h1) hc⟩
            · exact .inr ⟨d, q, h1, h2, h3, fun d' hd' => h4 d' ((hmem d').2 (.inr hd'))⟩
          · rintro (⟨hk0, d, hd, h2, h3, h4⟩ | ⟨d, hd, h1, h2, h3, h4⟩)
            · refine ⟨d, (hmem d).2 (.inl hd), cmpF_eq0 (hkey d hd) hk0, h2, h3, fun d' hd' hkd hc => ?_⟩
              rcases (hmem d').1 hd' with q | q
              · exact h4 d' q hc
              · have h5 := hlt d hd d' q
                have h6 : cmpF (keyF d) (keyF d') = 0 := cmpF_eq0 (cmpF_eq0 (hkey d hd) hk0) (cmpF_sym hkd)
                omega
            · refine ⟨d, (hmem d).2 (.inr hd), h1, h2, h3, fun d' hd' hkd hc => ?_⟩
              rcases (hmem d').1 hd' with q | q
              · have h5 := hlt d' q d hd
                have h6 : cmpF (keyF d') (keyF d) = 0 := cmpF_eq0 hkd (cmpF_sym h1)
                omega
              · exact h4 d' q hkd hc
        by_cases hs : sp.length = 0
        · rw [if_pos hs, List.nil_append]
          have e : sp = [] := List.length_eq_zero_iff.1 hs
          refine ⟨i1, fun f hf => ?_, hno, fun k y => ?_⟩
          · obtain ⟨⟨d, hd, h1⟩, h2⟩ := i2 f hf
            exact ⟨⟨d, (hmem d).2 (.inr hd), h1⟩, h2⟩
          · rw [i4, hhold, e]
            exact ⟨.inr, fun h => h.elim (fun h => absurd h.2 (inS_nil y)) id⟩
        · rw [if_neg hs]
          refine ⟨?_, fun f hf => ?_, hno, fun k y => ?_⟩
          · refine List.pairwise_cons.2 ⟨fun f hf => ?_, i1⟩
            obtain ⟨⟨d, hd, h1⟩, _⟩ := i2 f hf
            have h5 : cmpF ⟨d0.e, d0.a, d0.v, sp⟩ (keyF d) < 0 := hlt d0 hd0 d hd
            exact wc_cmpF.lt (by omega : cmpF ⟨d0.e, d0.a, d0.v, sp⟩ (keyF d) ≤ 0) (by have := cmpF_sym h1; omega) (.inl h5)
          · rcases List.mem_cons.1 hf with rfl | hf
            · exact ⟨⟨d0, (hmem d0).2 (.inl hd0), (cmpF_z _ _).2 ⟨rfl, rfl, rfl⟩⟩, t1, t2, Nat.pos_of_ne_zero hs⟩
            · obtain ⟨⟨d, hd, h1⟩, h2⟩ := i2 f hf
              exact ⟨⟨d, (hmem d).2 (.inr hd), h1⟩, h2⟩
          · rw [hhold, ← i4]
            constructor
            · rintro ⟨f, hf, h1, h2⟩
              rcases List.mem_cons.1 hf with rfl | hf
              · exact .inl ⟨h1, h2⟩
              · exact .inr ⟨f, hf, h1, h2⟩
            · rintro (⟨h1, h2⟩ | ⟨f, hf, h1, h2⟩)
              · exact ⟨_, List.mem_cons_self, h1, h2⟩
              · exact ⟨f, List.mem_cons_of_mem _ hf, h1, h2⟩
end Go.Proofs

namespace Go.Proofs
open Go.AL Go.Sort
theorem dsort_iff (l : List Dat) (d : Dat) : d ∈ dsortL 1 l ↔ d ∈ l := by
  unfold dsortL
  rw [if_pos (by decide), sortC_mem, List.mem_filter]
  exact ⟨fun h => h.1, fun h => ⟨h, by unfold hasB; rw [dP_t]; exact .inl (by decide)⟩⟩
theorem dsort_st (l : List Dat) : (dsortL 1 l).Pairwise stP := by
  unfold dsortL
  rw [if_pos (by decide)]
  exact (sortC_rise (wc_cmpD 1) (cmpD_z 1) _).imp fun h => stP_of h
theorem find_rise {F : List Fac} (h : riseF F) (k : Fac) (y : Int) : inS (findL F k) y ↔ ∃ f, f ∈ F ∧ cmpF f k = 0 ∧ inS f.sp y := by
  unfold findL
  cases hf : F.find? fun g => decide (cmpF g k = 0) with
  | none =>
    have := List.find?_eq_none.1 hf
    refine ⟨fun h => absurd h (inS_nil y), fun ⟨f, h1, h2, _⟩ => absurd (this f h1) (by simp [h2])⟩
  | some f0 =>
    have h0 := List.mem_of_find?_eq_some hf
    have hk : cmpF f0 k = 0 := by have := List.find?_some hf; simpa using this
    refine ⟨fun h => ⟨f0, h0, hk, h⟩, fun ⟨f, h1, h2, h3⟩ => ?_⟩
    have e : f = f0 := by
      obtain ⟨i, hi, rfl⟩ := List.getElem_of_mem h1
      obtain ⟨j, hj, rfl⟩ := List.getElem_of_mem h0
      have hp := List.pairwise_iff_getElem.1 h
      have z := cmpF_eq0 h2 (cmpF_sym hk)
      rcases Nat.lt_trichotomy i j with q | q | q
      · have := hp i j hi hj q; omega
      · subst q; rfl
      · have := hp j i hj hi q
        have := cmpF_sym z; omega
    rw [← e]; exact h3
theorem may_key {f : Fac} {d : Dat} (h : cmpF f (keyF d) = 0) (hd : dmayP d) : dmayP (datF f) := by
  obtain ⟨h1, h2, h3⟩ := (cmpF_z _ _).1 h
  simp only [keyF] at h1 h2 h3
  unfold dmayP datF
  simp only [h1, h2, h3]
  exact ⟨hd.1, hd.2.1, hd.2.2.1, hd.2.2.2.1, hd.2.2.2.2.1, by decide, by decide, by decide⟩
theorem foldR_ok (l : List Dat) (hr : rgD l) : match foldR l with
    | some F => (∀ d, d ∈ l → dmayP d) ∧ allF F ∧ (∀ f, f ∈ F → rngS f.sp) ∧ ¬ confK l ∧ ∀ k y, inS (findL F k) y ↔ holdK l k y
    | none => ¬ (∀ d, d ∈ l → dmayP d) ∨ confK l := by
  unfold foldR
  by_cases hm : ∀ d, d ∈ l → dmayP d
  · rw [← dP_T hm, if_pos rfl]
    have hiff := dsort_iff l
    have hfl := (grpL_flat' (grP true) _ (dsortL 1 l) (Nat.le_refl _)).1
    have h := foldG_ok2 (grpL (grP true) (dsortL 1 l)) (grpL_kGr _ _ (Nat.le_refl _) (dsort_st l)) (by rw [hfl]; exact fun d hd => (hm d ((hiff d).1 hd)).2.2.2.2.2.2.2) (by rw [hfl]; exact fun d hd => hr d ((hiff d).1 hd))
    rw [hfl] at h
    have hcf : confK (dsortL 1 l) ↔ confK l := by
      unfold confK; simp only [hiff]
    have hhk : ∀ k y, holdK (dsortL 1 l) k y ↔ holdK l k y := fun k y => by
      unfold holdK; simp only [hiff]
    cases hf : foldG (grpL (grP true) (dsortL 1 l)) with
    | none => rw [hf] at h; exact .inr (hcf.1 h)
    | some F =>
      rw [hf] at h
      obtain ⟨h1, h2, h3, h4⟩ := h
      refine ⟨hm, fun i hi _ => ⟨?_, fun h0 => ?_⟩, fun f hf => (h2 f hf).2.2.1, fun e => h3 (hcf.2 e), fun k y => ?_⟩
      · obtain ⟨⟨d, hd, k1⟩, k2, _, k4⟩ := h2 _ (List.getElem_mem hi)
        exact ⟨may_key k1 (hm d ((hiff d).1 hd)), k4, k2⟩
      · exact List.pairwise_iff_getElem.1 h1 (i - 1) i (by omega) hi (by omega)
      · rw [find_rise h1, h4, hhk]
  · rw [← dP_F hm, if_neg (by decide)]
    exact .inl hm
end Go.Proofs

namespace Go.Proofs
open Go.AL Go.Sort
def sayD (f : Fac) (T : Int) (b : Bool) (sp : List Sp) : List Dat := sp.map fun s => ⟨f.e, f.a, f.v, T, b, s.f, s.t⟩
theorem sayD_take (f : Fac) (T : Int) (b : Bool) {sp : List Sp} {i : Nat} (h : i < sp.length) : sayD f T b (sp.take (i + 1)) = sayD f T b (sp.take i) ++ [⟨f.e, f.a, f.v, T, b, sp[i].f, sp[i].t⟩] := by
  unfold sayD
  rw [List.take_succ_eq_append_getElem h, List.map_append]; rfl
theorem sayD_len (f : Fac) (T : Int) (b : Bool) (sp : List Sp) : (sayD f T b sp).length = sp.length := by simp [sayD]
noncomputable def lessL (a b : List Fac) (T : Int) (put : Bool) : List Dat := a.flatMap fun f => sayD f T put (minL f.sp (findL b f))
noncomputable def chgL (old now : List Fac) (T : Int) : List Dat := lessL now old T true ++ lessL old now T false
theorem lessL_take (a b : List Fac) (T : Int) (put : Bool) {i : Nat} (h : i < a.length) : lessL (a.take (i + 1)) b T put = lessL (a.take i) b T put ++ sayD a[i] T put (minL a[i].sp (findL b a[i])) := by
  unfold lessL
  rw [List.take_succ_eq_append_getElem h, List.flatMap_append]
  simp
def rngF (l : List Fac) : Prop := ∀ f, f ∈ l → rngS f.sp
theorem find_set {F : List Fac} (h : allF F) (k : Fac) : SetP (findL F k) := by
  unfold findL
  cases hf : F.find? fun g => decide (cmpF g k = 0) with
  | none => exact .nil
  | some f0 =>
    obtain ⟨i, hi, rfl⟩ := List.getElem_of_mem (List.mem_of_find?_eq_some hf)
    exact (h i hi hi).1.2.2
theorem may_of {F : List Fac} (h : allF F) {f : Fac} (hf : f ∈ F) : mayF f := by
  obtain ⟨i, hi, rfl⟩ := List.getElem_of_mem hf
  exact (h i hi hi).1
theorem fac_key {a b : Fac} (h : cmpF a b = 0) (hs : a.sp = b.sp) : a = b := by
  obtain ⟨h1, h2, h3⟩ := (cmpF_z a b).1 h
  cases a; cases b; cases h1; cases h2; cases h3; cases hs; rfl
theorem facts_sub {A B : List Fac} (ha : allF A) (hb : allF B) (h : ∀ k y, inS (findL A k) y ↔ inS (findL B k) y) {f : Fac} (hf : f ∈ A) : f ∈ B := by
  obtain ⟨hm, hl, hp⟩ := may_of ha hf
  have hkk : ∀ k : Fac, cmpF k k = 0 := fun k => (cmpF_z k k).2 ⟨rfl, rfl, rfl⟩
  obtain ⟨y0, hy0⟩ : ∃ y, inS f.sp y := by
    have h0 := List.getElem_mem (l := f.sp) (n := 0) hl
    exact ⟨_, _, h0, Int.le_refl _, hp.1 _ h0⟩
  obtain ⟨g, hg, hgk, _⟩ := (find_rise (allF_rise hb) f y0).1 ((h f y0).1 ((find_rise (allF_rise ha) f y0).2 ⟨f, hf, hkk f, hy0⟩))
  have uniq : ∀ {L : List Fac}, allF L → ∀ {a b : Fac}, a ∈ L → b ∈ L → cmpF a b = 0 → a = b := fun {L} hL {a b} h1 h2 h3 => by
    obtain ⟨i, hi, rfl⟩ := List.getElem_of_mem h1
    obtain ⟨j, hj, rfl⟩ := List.getElem_of_mem h2
    have hp := List.pairwise_iff_getElem.1 (allF_rise hL)
    rcases Nat.lt_trichotomy i j with q | q | q
    · have := hp i j hi hj q; omega
    · subst q; rfl
    · have := hp j i hj hi q
      have := cmpF_sym h3; omega
  have e : f.sp = g.sp := set_ext hp (may_of hb hg).2.2 fun y => by
    have e1 := find_rise (allF_rise ha) f y
    have e2 := find_rise (allF_rise hb) f y
    constructor
    · intro hy
      obtain ⟨g', h1, h2, h3⟩ := e2.1 ((h f y).1 (e1.2 ⟨f, hf, hkk f, hy⟩))
      rw [uniq hb h1 hg (cmpF_eq0 h2 (cmpF_sym hgk))] at h3; exact h3
    · intro hy
      obtain ⟨f', h1, h2, h3⟩ := e1.1 ((h f y).2 (e2.2 ⟨g, hg, hgk, hy⟩))
      rw [uniq ha h1 hf h2] at h3; exact h3
  rw [fac_key (cmpF_sym hgk) e]; exact hg
theorem riseF_eq : ∀ {a b : List Fac}, riseF a → riseF b → (∀ x, x ∈ a ↔ x ∈ b) → a = b := fun h1 h2 h => rise_eq wc_cmpF h1 h2 h
theorem facts_ext {A B : List Fac} (ha : allF A) (hb : allF B) (h : ∀ k y, inS (findL A k) y ↔ inS (findL B k) y) : A = B :=
  riseF_eq (allF_rise ha) (allF_rise hb) fun _ => ⟨facts_sub ha hb h, facts_sub hb ha fun k y => (h k y).symm⟩
end Go.Proofs

namespace Go.Proofs
open Go.AL Go.Sort
end Go.Proofs
