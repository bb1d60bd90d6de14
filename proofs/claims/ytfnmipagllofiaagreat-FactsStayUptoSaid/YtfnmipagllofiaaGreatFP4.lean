/- The plain law of a fold, whole. -/
import Derived.Test.YtfnmipagllofiaaGreatFP3
namespace Go.Proofs
open Go.AL Go.Sort

theorem dsort_iff (l : List Dat) (d : Dat) : d ∈ dsortL 1 l ↔ d ∈ l := by
  unfold dsortL
  rw [if_pos (by decide), sortC_mem, List.mem_filter]
  exact ⟨fun h => h.1, fun h => ⟨h, by unfold hasB; rw [dP_t]; exact .inl (by decide)⟩⟩
theorem dsort_st (l : List Dat) : (dsortL 1 l).Pairwise stP := by
  unfold dsortL
  rw [if_pos (by decide)]
  exact (sortC_rise (wc_cmpD 1) (cmpD_z 1) _).imp fun h => stP_of h
theorem find_rise {F : List Fac} (h : riseF F) (k : Fac) (y : Int) : inS (findL F k) y ↔ ∃ f, f ∈ F ∧ cmpF f k = 0 ∧ inS f.sp y := by
  unfold findL
  cases hf : F.find? fun g => decide (cmpF g k = 0) with
  | none =>
    have := List.find?_eq_none.1 hf
    refine ⟨fun h => absurd h (inS_nil y), fun ⟨f, h1, h2, _⟩ => absurd (this f h1) (by simp [h2])⟩
  | some f0 =>
    have h0 := List.mem_of_find?_eq_some hf
    have hk : cmpF f0 k = 0 := by have := List.find?_some hf; simpa using this
    refine ⟨fun h => ⟨f0, h0, hk, h⟩, fun ⟨f, h1, h2, h3⟩ => ?_⟩
    have e : f = f0 := by
      obtain ⟨i, hi, rfl⟩ := List.getElem_of_mem h1
      obtain ⟨j, hj, rfl⟩ := List.getElem_of_mem h0
      have hp := List.pairwise_iff_getElem.1 h
      have z := cmpF_eq0 h2 (cmpF_sym hk)
      rcases Nat.lt_trichotomy i j with q | q | q
      · have := hp i j hi hj q; omega
      · subst q; rfl
      · have := hp j i hj hi q
        have := cmpF_sym z; omega
    rw [← e]; exact h3
theorem may_key {f : Fac} {d : Dat} (h : cmpF f (keyF d) = 0) (hd : dmayP d) : dmayP (datF f) := by
  obtain ⟨h1, h2, h3⟩ := (cmpF_z _ _).1 h
  simp only [keyF] at h1 h2 h3
  unfold dmayP datF
  simp only [h1, h2, h3]
  exact ⟨hd.1, hd.2.1, hd.2.2.1, hd.2.2.2.1, hd.2.2.2.2.1, by decide, by decide, by decide⟩
theorem foldR_ok (l : List Dat) (hr : rgD l) : match foldR l with
    | some F => (∀ d, d ∈ l → dmayP d) ∧ allF F ∧ (∀ f, f ∈ F → rngS f.sp) ∧ ¬ confK l ∧ ∀ k y, inS (findL F k) y ↔ holdK l k y
    | none => ¬ (∀ d, d ∈ l → dmayP d) ∨ confK l := by
  unfold foldR
  by_cases hm : ∀ d, d ∈ l → dmayP d
  · rw [← dP_T hm, if_pos rfl]
    have hiff := dsort_iff l
    have hfl := (grpL_flat' (grP true) _ (dsortL 1 l) (Nat.le_refl _)).1
    have h := foldG_ok2 (grpL (grP true) (dsortL 1 l)) (grpL_kGr _ _ (Nat.le_refl _) (dsort_st l)) (by rw [hfl]; exact fun d hd => (hm d ((hiff d).1 hd)).2.2.2.2.2.2.2) (by rw [hfl]; exact fun d hd => hr d ((hiff d).1 hd))
    rw [hfl] at h
    have hcf : confK (dsortL 1 l) ↔ confK l := by
      unfold confK; simp only [hiff]
    have hhk : ∀ k y, holdK (dsortL 1 l) k y ↔ holdK l k y := fun k y => by
      unfold holdK; simp only [hiff]
    cases hf : foldG (grpL (grP true) (dsortL 1 l)) with
    | none => rw [hf] at h; exact .inr (hcf.1 h)
    | some F =>
      rw [hf] at h
      obtain ⟨h1, h2, h3, h4⟩ := h
      refine ⟨hm, fun i hi _ => ⟨?_, fun h0 => ?_⟩, fun f hf => (h2 f hf).2.2.1, fun e => h3 (hcf.2 e), fun k y => ?_⟩
      · obtain ⟨⟨d, hd, k1⟩, k2, _, k4⟩ := h2 _ (List.getElem_mem hi)
        exact ⟨may_key k1 (hm d ((hiff d).1 hd)), k4, k2⟩
      · exact List.pairwise_iff_getElem.1 h1 (i - 1) i (by omega) hi (by omega)
      · rw [find_rise h1, h4, hhk]
  · rw [← dP_F hm, if_neg (by decide)]
    exact .inl hm
end Go.Proofs
