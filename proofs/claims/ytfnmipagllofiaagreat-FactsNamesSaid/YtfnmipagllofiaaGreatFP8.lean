/- Contracts of the document's functions on facts: how two stand, may some be, the instants of one, which hold at an instant. -/
import Derived.Test.YtfnmipagllofiaaGreatFF12
import Derived.Test.YtfnmipagllofiaaGreatFD3
import Derived.Test.YtfnmipagllofiaaGreatFS9
import Derived.Test.YtfnmipagllofiaaGreatFF8
namespace Go.Proofs
open Go.AL Go.Sort
attribute [local irreducible] Go.AL.W Go.AL.WL Go.AL.WD Go.AL.POp Go.AL.PPOp Go.AL.POpS Go.AL.PC Go.AL.AC Go.AL.YW Go.AL.Ret Go.AL.Le Go.AL.thn Go.AL.inBlk Go.AL.scp
end Go.Proofs

namespace Go.Proofs
open Go.AL Go.Sort
attribute [local irreducible] Go.AL.W Go.AL.WL Go.AL.WD Go.AL.POp Go.AL.PPOp Go.AL.POpS Go.AL.PC Go.AL.AC Go.AL.YW Go.AL.Ret Go.AL.Le Go.AL.thn Go.AL.inBlk Go.AL.scp
theorem lessL_len (b : List Fac) (T : Int) (put : Bool) (K : Nat) : ∀ (a : List Fac), (∀ f, f ∈ a → (minL f.sp (findL b f)).length ≤ K) → (lessL a b T put).length ≤ a.length * K
  | [], _ => Nat.zero_le _
  | f :: a, h => by
    have h1 := h f List.mem_cons_self
    have h2 := lessL_len b T put K a fun g hg => h g (List.mem_cons_of_mem _ hg)
    have e : lessL (f :: a) b T put = sayD f T put (minL f.sp (findL b f)) ++ lessL a b T put := by unfold lessL; rw [List.flatMap_cons]
    rw [e, List.length_append, sayD_len, List.length_cons, Nat.succ_mul]; omega
end Go.Proofs

namespace Go.Proofs
open Go.AL Go.Sort
theorem fold_is {l : List Dat} {F : List Fac} (hr : rgD l) (hm : ∀ d, d ∈ l → dmayP d) (hc : ¬ confK l) (ha : allF F) (hk : ∀ k y, (∃ f, f ∈ F ∧ cmpF f k = 0 ∧ inS f.sp y) ↔ holdK l k y) : foldR l = some F := by
  have h := foldR_ok l hr
  cases hF : foldR l with
  | none => rw [hF] at h; exact absurd h (by rintro (h | h); exact h hm; exact hc h)
  | some G =>
    rw [hF] at h
    congr 1
    refine facts_ext h.2.1 ha fun k y => ?_
    rw [h.2.2.2.2, find_rise (allF_rise ha), hk]
theorem fold_not {l : List Dat} (hr : rgD l) (hc : confK l) : foldR l = none := by
  have h := foldR_ok l hr
  cases hF : foldR l with
  | none => rfl
  | some G => rw [hF] at h; exact absurd hc h.2.2.2.1
theorem few_may : ∀ d, d ∈ fewL → dmayP d := by
  have h := foldR_ok fewL (fun d hd => by
    simp only [List.mem_cons, List.not_mem_nil, or_false] at hd
    rcases hd with rfl | rfl <;> decide)
  rw [few_fold] at h
  exact h.1
abbrev onD : Dat := ⟨5, 10, oneV, 1, true, 0, 10⟩
abbrev cuD : Dat := ⟨5, 10, oneV, 2, false, 4, 6⟩
abbrev adD : Dat := ⟨5, 10, oneV, 2, true, 5, 7⟩
theorem mem_on {d : Dat} (h : d ∈ [onD]) : d = onD := List.mem_singleton.1 h
theorem mem_cu {d : Dat} (h : d ∈ [cuD]) : d = cuD := List.mem_singleton.1 h
theorem fold_on : foldR [onD] = some [⟨5, 10, oneV, [⟨0, 10⟩]⟩] := by
  have hm := few_may onD (by simp)
  refine fold_is (fun d h => by rw [mem_on h]; decide) (fun d h => by rw [mem_on h]; exact hm) ?_ ?_ ?_
  · rintro ⟨d, hd, d', hd', _, _, h1, h2, _⟩
    rw [mem_on hd'] at h2; cases h2
  · intro i hi _
    have e : i = 0 := by simp at hi; omega
    subst e
    refine ⟨⟨?_, Nat.zero_lt_one, setP_one (by decide)⟩, fun h => absurd h (by decide)⟩
    exact may_key (f := ⟨5, 10, oneV, [⟨0, 10⟩]⟩) (d := onD) ((cmpF_z _ _).2 ⟨rfl, rfl, rfl⟩) hm
  · intro k y
    constructor
    · rintro ⟨f, hf, h1, h2⟩
      rw [List.mem_singleton.1 hf] at h1 h2
      obtain ⟨h3, h4⟩ := (inS_one _ _).1 h2
      exact ⟨onD, by simp, h1, rfl, ⟨h3, h4⟩, fun d' hd' _ _ => by rw [mem_on hd']; exact Int.le_refl _⟩
    · rintro ⟨d, hd, h1, _, h3, _⟩
      rw [mem_on hd] at h1 h3
      exact ⟨_, List.mem_singleton.2 rfl, h1, (inS_one _ _).2 ⟨h3.1, h3.2⟩⟩
theorem fold_cu : foldR [cuD] = some [] := by
  have hm := few_may cuD (by simp)
  refine fold_is (fun d h => by rw [mem_cu h]; decide) (fun d h => by rw [mem_cu h]; exact hm) ?_ (fun i hi => by simp at hi) ?_
  · rintro ⟨d, hd, d', hd', _, _, h1, h2, _⟩
    rw [mem_cu hd] at h1; cases h1
  · intro k y
    constructor
    · rintro ⟨f, hf, _⟩; simp at hf
    · rintro ⟨d, hd, _, h2, _⟩
      rw [mem_cu hd] at h2; cases h2
theorem fold_ad : foldR (fewL ++ [adD]) = none := by
  refine fold_not (fun d hd => ?_) ⟨adD, by simp, cuD, by simp, ⟨rfl, rfl, rfl⟩, rfl, rfl, rfl, 5, by unfold covD; decide, by unfold covD; decide⟩
  simp only [List.mem_append, List.mem_cons, List.not_mem_nil, or_false] at hd
  rcases hd with (rfl | rfl) | rfl <;> decide
theorem few_rg : rgD fewL := fun d hd => by
  simp only [List.mem_cons, List.not_mem_nil, or_false] at hd
  rcases hd with rfl | rfl <;> decide
theorem few_F : allF fewF ∧ rngF fewF := by
  have h := foldR_ok fewL few_rg
  rw [few_fold] at h
  exact ⟨h.2.1, h.2.2.1⟩
theorem vdat_of (v : Vw) (m : List Dat) (h : ∀ d, d ∈ fewL → (viewP v d ↔ d ∈ m)) (hm : ∀ d, d ∈ m → d ∈ fewL) : foldR (vdatL fewL v) = foldR m := by
  refine foldR_ext fun d => ?_
  unfold vdatL
  rw [dsort_iff, List.mem_filter]
  unfold viewB
  rw [dP_t]
  exact ⟨fun k => (h d k.1).1 k.2, fun k => ⟨hm d k, (h d (hm d k)).2 k⟩⟩
theorem few_mem {d : Dat} (h : d ∈ fewL) : d = onD ∨ d = cuD := by
  simpa only [List.mem_cons, List.not_mem_nil, or_false] using h
theorem vof_up : vofF fewL ⟨1, 0, 0, false, false⟩ = [⟨5, 10, oneV, [⟨0, 10⟩]⟩] ∧ vofE fewL ⟨1, 0, 0, false, false⟩ = 0 := by
  have e := vdat_of ⟨1, 0, 0, false, false⟩ [onD] (fun d hd => by
    unfold viewP
    rcases few_mem hd with rfl | rfl
    · exact ⟨fun _ => by simp, fun _ => by decide⟩
    · refine ⟨fun h => absurd h (by decide), fun h => absurd (mem_on h) (by simp)⟩) (fun d hd => by rw [mem_on hd]; simp)
  have hv : vwP ⟨1, 0, 0, false, false⟩ := by unfold vwP; decide
  unfold vofF vofE vofL
  rw [← dP_T hv, e, fold_on]
  exact ⟨rfl, rfl⟩
theorem vof_af : vofF fewL ⟨0, 1, 0, false, false⟩ = [] ∧ vofE fewL ⟨0, 1, 0, false, false⟩ = 0 := by
  have e := vdat_of ⟨0, 1, 0, false, false⟩ [cuD] (fun d hd => by
    unfold viewP
    rcases few_mem hd with rfl | rfl
    · refine ⟨fun h => absurd h (by decide), fun h => absurd (mem_cu h) (by simp)⟩
    · exact ⟨fun _ => by simp, fun _ => by decide⟩) (fun d hd => by rw [mem_cu hd]; simp)
  have hv : vwP ⟨0, 1, 0, false, false⟩ := by unfold vwP; decide
  unfold vofF vofE vofL
  rw [← dP_T hv, e, fold_cu]
  exact ⟨rfl, rfl⟩
theorem vof_at : vofF fewL ⟨0, 0, 5, true, false⟩ = [] ∧ vofE fewL ⟨0, 0, 5, true, false⟩ = 0 := by
  have e := vdat_of ⟨0, 0, 5, true, false⟩ fewL (fun d hd => by
    unfold viewP
    rcases few_mem hd with rfl | rfl
    · exact ⟨fun _ => by simp, fun _ => by decide⟩
    · exact ⟨fun _ => by simp, fun _ => by decide⟩) (fun d hd => hd)
  have hv : vwP ⟨0, 0, 5, true, false⟩ := by unfold vwP; decide
  have ha : atL fewF 5 = [] := by
    unfold atL
    refine List.filter_eq_nil_iff.2 fun f hf h => ?_
    rw [List.mem_singleton.1 hf] at h
    have h2 := (dP_t.mp h).2
    rw [inS_cons, inS_one] at h2
    simp only at h2
    omega
  unfold vofF vofE vofL
  rw [← dP_T hv, e, few_fold]
  exact ⟨ha, rfl⟩
theorem vof_no : vofF fewL ⟨0, 0, 0, false, true⟩ = [] ∧ vofE fewL ⟨0, 0, 0, false, true⟩ = 2 := by
  unfold vofF vofE
  simp
abbrev c1D : Dat := ⟨5, 10, oneV, 3, true, 0, 4⟩
abbrev c2D : Dat := ⟨5, 10, oneV, 3, true, 6, 10⟩
theorem chg_few : dsortL 1 (chgL [] fewF 3) = [c1D, c2D] := by
  have hm : minL [⟨0, 4⟩, ⟨6, 10⟩] [] = [⟨0, 4⟩, ⟨6, 10⟩] := by
    have hs : SetP [⟨0, 4⟩, ⟨6, 10⟩] := (may_of few_F.1 (List.mem_singleton.2 rfl)).2.2
    have hr : rngS [⟨0, 4⟩, ⟨6, 10⟩] := few_F.2 _ (List.mem_singleton.2 rfl)
    obtain ⟨k1, k2⟩ := min_ok hs .nil (fun x h => rng_in hr h) (fun s hs => by simp at hs)
    exact set_ext k1 hs fun x => by rw [k2]; exact ⟨fun h => h.1, fun h => ⟨h, inS_nil x⟩⟩
  have e : chgL [] fewF 3 = [c1D, c2D] := by
    have h1 : lessL fewF [] 3 true = sayD ⟨5, 10, oneV, [⟨0, 4⟩, ⟨6, 10⟩]⟩ 3 true (minL [⟨0, 4⟩, ⟨6, 10⟩] []) ++ [] := rfl
    unfold chgL
    rw [h1, hm]; rfl
  rw [e]
  unfold dsortL
  rw [if_pos (by decide)]
  refine (sortC_eq (wc_cmpD 1) (cmpD_z 1) (List.pairwise_cons.2 ⟨fun y hy => ?_, List.pairwise_singleton _ _⟩) fun x => ?_).symm
  · rw [List.mem_singleton.1 hy]; decide +kernel
  · rw [List.mem_filter]
    exact ⟨fun h => ⟨h, by unfold hasB; rw [dP_t]; exact .inl (by decide)⟩, fun h => h.1⟩
theorem not_one : ¬ allF [⟨1, 1, oneV, []⟩] := fun h => by
  have := (h 0 (by decide) (by decide)).1.2.1
  exact absurd this (by decide)
theorem not_two : ¬ allF (fewF ++ fewF) := fun h => by
  have := (h 1 (by decide) (by decide)).2 (by decide)
  have e : cmpF ((fewF ++ fewF)[0]) ((fewF ++ fewF)[1]) = 0 := (cmpF_z _ _).2 ⟨rfl, rfl, rfl⟩
  have h2 : cmpF ((fewF ++ fewF)[0]) ((fewF ++ fewF)[1]) < 0 := this
  omega
end Go.Proofs
