/- The plain law of a fold: facts, by their entity, attribute and value. -/
import Derived.Test.YtfnmipagllofiaaGreatFP2
namespace Go.Proofs
open Go.AL Go.Sort

def keyF (d : Dat) : Fac := ⟨d.e, d.a, d.v, []⟩
theorem alP_iff {a b : Dat} : alP a b ↔ cmpF (keyF a) (keyF b) = 0 := by rw [cmpF_z]; exact Iff.rfl
theorem alP.sym {a b : Dat} (h : alP a b) : alP b a := ⟨h.1.symm, h.2.1.symm, h.2.2.symm⟩
theorem alP.trans {a b c : Dat} (h : alP a b) (h' : alP b c) : alP a c := ⟨h.1.trans h'.1, h.2.1.trans h'.2.1, h.2.2.trans h'.2.2⟩
theorem cmpF_if (a b : Fac) : cmpF a b = if cmpI a.e b.e = 0 then (if cmpI a.a b.a = 0 then cmpV a.v b.v else cmpI a.a b.a) else cmpI a.e b.e := by
  simp only [cmpF, orI]
  split
  · split
    · split
      · rename_i h; exact h.symm
      · rfl
    · rfl
  · rfl
theorem cmpI_neg {a b : Int} (h : cmpI a b < 0) : a < b := by
  unfold cmpI at h
  split at h
  · assumption
  · split at h <;> omega
/-- How two stand that stand in the order. -/
def stP (a b : Dat) : Prop := cmpF (keyF a) (keyF b) ≤ 0 ∧ (alP a b → a.t ≤ b.t)
theorem stP_of {a b : Dat} (h : cmpD 1 a b < 0) : stP a b := by
  have e : cmpD 1 a b = if cmpI a.e b.e = 0 then (if cmpI a.a b.a = 0 then (if cmpV a.v b.v = 0 then (if cmpI a.t b.t = 0 then cmpPs [prtN (if a.add then 0 else 1), prtN a.fr, prtN a.to] [prtN (if b.add then 0 else 1), prtN b.fr, prtN b.to] else cmpI a.t b.t) else cmpV a.v b.v) else cmpI a.a b.a) else cmpI a.e b.e := rfl
  have ek : cmpF (keyF a) (keyF b) = if cmpI a.e b.e = 0 then (if cmpI a.a b.a = 0 then cmpV a.v b.v else cmpI a.a b.a) else cmpI a.e b.e := cmpF_if (keyF a) (keyF b)
  rw [e] at h
  unfold stP
  rw [ek]
  split at h
  · rename_i h1
    rw [if_pos h1]
    split at h
    · rename_i h2
      rw [if_pos h2]
      split at h
      · rename_i h3
        refine ⟨by omega, fun _ => ?_⟩
        split at h
        · rename_i h4
          have := (cmpI_z _ _).1 h4; omega
        · have := cmpI_neg h; omega
      · rename_i h3
        refine ⟨by omega, fun k => ?_⟩
        exact absurd ((cmpV_z _ _).2 k.2.2) h3
    · rename_i h2
      rw [if_neg h2]
      exact ⟨by omega, fun k => absurd ((cmpI_z _ _).2 k.2.1) h2⟩
  · rename_i h1
    rw [if_neg h1]
    exact ⟨by omega, fun k => absurd ((cmpI_z _ _).2 k.1) h1⟩
/-- Groups by entity, attribute and value, rising. -/
def kGr (gs : List (List Dat)) : Prop := (∀ g, g ∈ gs → 0 < g.length ∧ (∀ d, d ∈ g → ∀ d', d' ∈ g → alP d d') ∧ g.Pairwise fun a b => a.t ≤ b.t) ∧ gs.Pairwise fun x y => ∀ d, d ∈ x → ∀ d', d' ∈ y → cmpF (keyF d) (keyF d') < 0
theorem grpL_kGr : ∀ (n : Nat) (l : List Dat), l.length ≤ n → l.Pairwise stP → kGr (grpL (grP true) l)
  | _, [], _, _ => by rw [grpL_nil]; exact ⟨fun x hx => by simp at hx, List.Pairwise.nil⟩
  | 0, _ :: _, h, _ => by simp at h
  | n + 1, d :: l, hn, hs => by
    have hd := List.dropWhile_sublist (p := tst (grP true) d) (l := l)
    have ht := List.takeWhile_sublist (p := tst (grP true) d) (l := l)
    obtain ⟨s1, s2⟩ := List.pairwise_cons.1 hs
    obtain ⟨i1, i2⟩ := grpL_kGr n (l.dropWhile (tst (grP true) d)) (by have := hd.length_le; simp at hn; omega) (s2.sublist hd)
    rw [grpL_cons]
    have hx : ∀ a, a ∈ d :: l.takeWhile (tst (grP true) d) → alP d a := fun a ha => by
      rcases List.mem_cons.1 ha with rfl | ha
      · exact ⟨rfl, rfl, rfl⟩
      · exact (tst_t.1 (mem_tw l ha)).1
    have hgt : ∀ b, b ∈ l.dropWhile (tst (grP true) d) → cmpF (keyF d) (keyF b) < 0 := fun b hb => by
      cases hdw : l.dropWhile (tst (grP true) d) with
      | nil => rw [hdw] at hb; simp at hb
      | cons c r =>
        have hc : ¬ grP true d c := by
          have := List.head?_dropWhile_not (tst (grP true) d) l
          rw [hdw] at this
          simp at this
          exact tst_f.1 this
        have hcl : c ∈ l := hd.subset (by rw [hdw]; simp)
        have hct : cmpF (keyF d) (keyF c) < 0 := by
          have h1 := (s1 c hcl).1
          rcases Int.lt_or_eq_of_le h1 with h | h
          · exact h
          · exact absurd ⟨alP_iff.2 h, .inl rfl⟩ hc
        rw [hdw] at hb
        rcases List.mem_cons.1 hb with rfl | hb
        · exact hct
        · have := s2.sublist hd
          rw [hdw] at this
          have := ((List.pairwise_cons.1 this).1 b hb).1
          exact wc_cmpF.lt (by omega) this (.inl hct)
    refine ⟨fun x hx0 => ?_, List.pairwise_cons.2 ⟨fun y hy a ha b hb => ?_, i2⟩⟩
    · rcases List.mem_cons.1 hx0 with rfl | hx0
      · have hal : ∀ a, a ∈ d :: l.takeWhile (tst (grP true) d) → ∀ b, b ∈ d :: l.takeWhile (tst (grP true) d) → alP a b := fun a ha b hb => (hx a ha).sym.trans (hx b hb)
        refine ⟨by simp, hal, ?_⟩
        have hp : (d :: l.takeWhile (tst (grP true) d)).Pairwise stP := hs.sublist (ht.cons_cons d)
        rw [List.pairwise_iff_getElem] at hp ⊢
        exact fun i j hi hj hij => (hp i j hi hj hij).2 (hal _ (List.getElem_mem hi) _ (List.getElem_mem hj))
      · exact i1 x hx0
    · have hb' : b ∈ l.dropWhile (tst (grP true) d) := by
        have := (grpL_flat' (grP true) _ (l.dropWhile (tst (grP true) d)) (Nat.le_refl _)).1
        rw [← this]
        exact List.mem_flatten.2 ⟨y, hy, hb⟩
      have h1 := hgt b hb'
      have h2 : cmpF (keyF a) (keyF d) = 0 := alP_iff.1 (hx a ha).sym
      exact wc_cmpF.lt (by omega) (by omega : cmpF (keyF d) (keyF b) ≤ 0) (.inr h1)
/-- .. of those like one. -/
def holdK (S : List Dat) (k : Fac) (y : Int) : Prop := ∃ d, d ∈ S ∧ cmpF (keyF d) k = 0 ∧ d.add = true ∧ covD d y ∧ ∀ d', d' ∈ S → cmpF (keyF d') k = 0 → covD d' y → d'.t ≤ d.t
def confK (S : List Dat) : Prop := ∃ d, d ∈ S ∧ ∃ d', d' ∈ S ∧ alP d d' ∧ d.t = d'.t ∧ d.add = true ∧ d'.add = false ∧ ∃ x, covD d x ∧ covD d' x
theorem cmpF_eq0 {a b c : Fac} (h : cmpF a b = 0) (h' : cmpF b c = 0) : cmpF a c = 0 := by
  rw [cmpF_z] at *
  exact ⟨h.1.trans h'.1, h.2.1.trans h'.2.1, h.2.2.trans h'.2.2⟩
theorem cmpF_sym {a b : Fac} (h : cmpF a b = 0) : cmpF b a = 0 := by
  rw [cmpF_z] at *
  exact ⟨h.1.symm, h.2.1.symm, h.2.2.symm⟩
theorem foldG_ok2 : ∀ (gs : List (List Dat)), kGr gs → okD gs.flatten → rgD gs.flatten →
    match foldG gs with
    | some F => riseF F ∧ (∀ f, f ∈ F → (∃ d, d ∈ gs.flatten ∧ cmpF f (keyF d) = 0) ∧ SetP f.sp ∧ rngS f.sp ∧ 0 < f.sp.length) ∧ ¬ confK gs.flatten ∧ ∀ k y, (∃ f, f ∈ F ∧ cmpF f k = 0 ∧ inS f.sp y) ↔ holdK gs.flatten k y
    | none => confK gs.flatten
  | [], _, _, _ => ⟨List.Pairwise.nil, fun f hf => by simp at hf, by rintro ⟨d, hd, _⟩; simp at hd, fun k y => ⟨fun ⟨f, hf, _⟩ => by simp at hf, fun ⟨d, hd, _⟩ => by simp at hd⟩⟩
  | g :: gs, hk, ho, hr => by
    obtain ⟨k1, k2⟩ := hk
    obtain ⟨g0, g1, g2⟩ := k1 g List.mem_cons_self
    have hmem : ∀ d, d ∈ (g :: gs).flatten ↔ d ∈ g ∨ d ∈ gs.flatten := fun d => by rw [List.flatten_cons, List.mem_append]
    have hog : okD g := fun d hd => ho d ((hmem d).2 (.inl hd))
    have hrg : rgD g := fun d hd => hr d ((hmem d).2 (.inl hd))
    have ih := foldG_ok2 gs ⟨fun x hx => k1 x (List.mem_cons_of_mem _ hx), (List.pairwise_cons.1 k2).2⟩ (fun d hd => ho d ((hmem d).2 (.inr hd))) (fun d hd => hr d ((hmem d).2 (.inr hd)))
    have hlt : ∀ d, d ∈ g → ∀ d', d' ∈ gs.flatten → cmpF (keyF d) (keyF d') < 0 := fun d hd d' hd' => by
      obtain ⟨y, hy, hy2⟩ := List.mem_flatten.1 hd'
      exact (List.pairwise_cons.1 k2).1 y hy d hd d' hy2
    have hfl := (grpL_flat' (grP false) _ g (Nat.le_refl _)).1
    have hT := foldT_ok (grpL (grP false) g) [] .nil (fun s hs => by simp at hs) (grpL_tGr _ g (Nat.le_refl _) g1 g2) (by rw [hfl]; exact hog) (by rw [hfl]; exact hrg)
    rw [hfl] at hT
    simp only [foldG]
    cases hf : foldT [] (grpL (grP false) g) with
    | none =>
      rw [hf] at hT
      obtain ⟨d, hd, d', hd', h⟩ := hT
      exact ⟨d, (hmem d).2 (.inl hd), d', (hmem d').2 (.inl hd'), g1 d hd d' hd', h⟩
    | some sp =>
      rw [hf] at hT
      obtain ⟨t1, t2, t3, t4⟩ := hT
      cases hg : foldG gs with
      | none =>
        rw [hg] at ih
        obtain ⟨d, hd, d', hd', h⟩ := ih
        exact ⟨d, (hmem d).2 (.inr hd), d', (hmem d').2 (.inr hd'), h⟩
      | some F =>
        rw [hg] at ih
        obtain ⟨i1, i2, i3, i4⟩ := ih
        obtain ⟨d0, hd0, hdh⟩ : ∃ d0, d0 ∈ g ∧ g.headD dat0 = d0 := by
          cases g with
          | nil => simp at g0
          | cons d l => exact ⟨d, List.mem_cons_self, rfl⟩
        have hkey : ∀ d, d ∈ g → cmpF (keyF d) (keyF d0) = 0 := fun d hd => alP_iff.1 (g1 d hd d0 hd0)
        simp only [hdh]
        have hno : ¬ confK (g :: gs).flatten := by
          rintro ⟨d, hd, d', hd', ha, h⟩
          rcases (hmem d).1 hd with q | q <;> rcases (hmem d').1 hd' with q' | q'
          · exact t3 ⟨d, q, d', q', h⟩
          · have := hlt d q d' q'; have := alP_iff.1 ha; omega
          · have := hlt d' q' d q; have := alP_iff.1 ha.sym; omega
          · exact i3 ⟨d, q, d', q', ha, h⟩
        have hhold : ∀ k y, holdK (g :: gs).flatten k y ↔ (cmpF (keyF d0) k = 0 ∧ inS sp y) ∨ holdK gs.flatten k y := fun k y => by
          have e4 : inS sp y ↔ holdP g y := (t4 y).trans ⟨fun h => h.elim id fun h => absurd h.1 (inS_nil y), .inl⟩
          rw [e4]
          constructor
          · rintro ⟨d, hd, h1, h2, h3, h4⟩
            rcases (hmem d).1 hd with q | q
            · exact .inl ⟨cmpF_eq0 (cmpF_sym (hkey d q)) h1, d, q, h2, h3, fun d' hd' hc => h4 d' ((hmem d').2 (.inl hd')) (cmpF_eq0 (cmpF_eq0 (hkey d' hd') (cmpF_sym (hkey d q))) h1) hc⟩
            · exact .inr ⟨d, q, h1, h2, h3, fun d' hd' => h4 d' ((hmem d').2 (.inr hd'))⟩
          · rintro (⟨hk0, d, hd, h2, h3, h4⟩ | ⟨d, hd, h1, h2, h3, h4⟩)
            · refine ⟨d, (hmem d).2 (.inl hd), cmpF_eq0 (hkey d hd) hk0, h2, h3, fun d' hd' hkd hc => ?_⟩
              rcases (hmem d').1 hd' with q | q
              · exact h4 d' q hc
              · have h5 := hlt d hd d' q
                have h6 : cmpF (keyF d) (keyF d') = 0 := cmpF_eq0 (cmpF_eq0 (hkey d hd) hk0) (cmpF_sym hkd)
                omega
            · refine ⟨d, (hmem d).2 (.inr hd), h1, h2, h3, fun d' hd' hkd hc => ?_⟩
              rcases (hmem d').1 hd' with q | q
              · have h5 := hlt d' q d hd
                have h6 : cmpF (keyF d') (keyF d) = 0 := cmpF_eq0 hkd (cmpF_sym h1)
                omega
              · exact h4 d' q hkd hc
        by_cases hs : sp.length = 0
        · rw [if_pos hs, List.nil_append]
          have e : sp = [] := List.length_eq_zero_iff.1 hs
          refine ⟨i1, fun f hf => ?_, hno, fun k y => ?_⟩
          · obtain ⟨⟨d, hd, h1⟩, h2⟩ := i2 f hf
            exact ⟨⟨d, (hmem d).2 (.inr hd), h1⟩, h2⟩
          · rw [i4, hhold, e]
            exact ⟨.inr, fun h => h.elim (fun h => absurd h.2 (inS_nil y)) id⟩
        · rw [if_neg hs]
          refine ⟨?_, fun f hf => ?_, hno, fun k y => ?_⟩
          · refine List.pairwise_cons.2 ⟨fun f hf => ?_, i1⟩
            obtain ⟨⟨d, hd, h1⟩, _⟩ := i2 f hf
            have h5 : cmpF ⟨d0.e, d0.a, d0.v, sp⟩ (keyF d) < 0 := hlt d0 hd0 d hd
            exact wc_cmpF.lt (by omega : cmpF ⟨d0.e, d0.a, d0.v, sp⟩ (keyF d) ≤ 0) (by have := cmpF_sym h1; omega) (.inl h5)
          · rcases List.mem_cons.1 hf with rfl | hf
            · exact ⟨⟨d0, (hmem d0).2 (.inl hd0), (cmpF_z _ _).2 ⟨rfl, rfl, rfl⟩⟩, t1, t2, Nat.pos_of_ne_zero hs⟩
            · obtain ⟨⟨d, hd, h1⟩, h2⟩ := i2 f hf
              exact ⟨⟨d, (hmem d).2 (.inr hd), h1⟩, h2⟩
          · rw [hhold, ← i4]
            constructor
            · rintro ⟨f, hf, h1, h2⟩
              rcases List.mem_cons.1 hf with rfl | hf
              · exact .inl ⟨h1, h2⟩
              · exact .inr ⟨f, hf, h1, h2⟩
            · rintro (⟨h1, h2⟩ | ⟨f, hf, h1, h2⟩)
              · exact ⟨_, List.mem_cons_self, h1, h2⟩
              · exact ⟨f, List.mem_cons_of_mem _ hf, h1, h2⟩
end Go.Proofs
