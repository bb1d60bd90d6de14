/- The plain law of a fold: who holds at an instant. -/
import Derived.Test.YtfnmipagllofiaaGreatFF8
namespace Go.Proofs
open Go.AL Go.Sort
def covD (d : Dat) (x : Int) : Prop := d.fr ≤ x ∧ x < d.to
end Go.Proofs

namespace Go.Proofs
open Go.AL Go.Sort
def keyF (d : Dat) : Fac := ⟨d.e, d.a, d.v, []⟩
theorem alP.sym {a b : Dat} (h : alP a b) : alP b a := ⟨h.1.symm, h.2.1.symm, h.2.2.symm⟩
theorem alP.trans {a b c : Dat} (h : alP a b) (h' : alP b c) : alP a c := ⟨h.1.trans h'.1, h.2.1.trans h'.2.1, h.2.2.trans h'.2.2⟩
theorem cmpF_if (a b : Fac) : cmpF a b = if cmpI a.e b.e = 0 then (if cmpI a.a b.a = 0 then cmpV a.v b.v else cmpI a.a b.a) else cmpI a.e b.e := by
  simp only [cmpF, orI]
  split
  · split
    · split
      · rename_i h; exact h.symm
      · rfl
    · rfl
  · rfl
theorem cmpF_eq0 {a b c : Fac} (h : cmpF a b = 0) (h' : cmpF b c = 0) : cmpF a c = 0 := by
  rw [cmpF_z] at *
  exact ⟨h.1.trans h'.1, h.2.1.trans h'.2.1, h.2.2.trans h'.2.2⟩
theorem cmpF_sym {a b : Fac} (h : cmpF a b = 0) : cmpF b a = 0 := by
  rw [cmpF_z] at *
  exact ⟨h.1.symm, h.2.1.symm, h.2.2.symm⟩
end Go.Proofs

namespace Go.Proofs
open Go.AL Go.Sort
theorem find_rise {F : List Fac} (h : riseF F) (k : Fac) (y : Int) : inS (findL F k) y ↔ ∃ f, f ∈ F ∧ cmpF f k = 0 ∧ inS f.sp y := by
  unfold findL
  cases hf : F.find? fun g => decide (cmpF g k = 0) with
  | none =>
    have := List.find?_eq_none.1 hf
    refine ⟨fun h => absurd h (inS_nil y), fun ⟨f, h1, h2, _⟩ => absurd (this f h1) (by simp [h2])⟩
  | some f0 =>
    have h0 := List.mem_of_find?_eq_some hf
    have hk : cmpF f0 k = 0 := by have := List.find?_some hf; simpa using this
    refine ⟨fun h => ⟨f0, h0, hk, h⟩, fun ⟨f, h1, h2, h3⟩ => ?_⟩
    have e : f = f0 := by
      obtain ⟨i, hi, rfl⟩ := List.getElem_of_mem h1
      obtain ⟨j, hj, rfl⟩ := List.getElem_of_mem h0
      have hp := List.pairwise_iff_getElem.1 h
      have z := cmpF_eq0 h2 (cmpF_sym hk)
      rcases Nat.lt_trichotomy i j with q | q | q
      · have := hp i j hi hj q; omega
      · subst q; rfl
      · have := hp j i hj hi q
        have := cmpF_sym z; omega
    rw [← e]; exact h3
end Go.Proofs

namespace Go.Proofs
open Go.AL Go.Sort
def sayD (f : Fac) (T : Int) (b : Bool) (sp : List Sp) : List Dat := sp.map fun s => ⟨f.e, f.a, f.v, T, b, s.f, s.t⟩
theorem sayD_take (f : Fac) (T : Int) (b : Bool) {sp : List Sp} {i : Nat} (h : i < sp.length) : sayD f T b (sp.take (i + 1)) = sayD f T b (sp.take i) ++ [⟨f.e, f.a, f.v, T, b, sp[i].f, sp[i].t⟩] := by
  unfold sayD
  rw [List.take_succ_eq_append_getElem h, List.map_append]; rfl
theorem sayD_len (f : Fac) (T : Int) (b : Bool) (sp : List Sp) : (sayD f T b sp).length = sp.length := by simp [sayD]
noncomputable def lessL (a b : List Fac) (T : Int) (put : Bool) : List Dat := a.flatMap fun f => sayD f T put (minL f.sp (findL b f))
noncomputable def chgL (old now : List Fac) (T : Int) : List Dat := lessL now old T true ++ lessL old now T false
theorem lessL_take (a b : List Fac) (T : Int) (put : Bool) {i : Nat} (h : i < a.length) : lessL (a.take (i + 1)) b T put = lessL (a.take i) b T put ++ sayD a[i] T put (minL a[i].sp (findL b a[i])) := by
  unfold lessL
  rw [List.take_succ_eq_append_getElem h, List.flatMap_append]
  simp
theorem lessL_mem {a b : List Fac} {T : Int} {put : Bool} {d : Dat} : d ∈ lessL a b T put ↔ ∃ f, f ∈ a ∧ ∃ s, s ∈ minL f.sp (findL b f) ∧ d = ⟨f.e, f.a, f.v, T, put, s.f, s.t⟩ := by
  unfold lessL sayD
  rw [List.mem_flatMap]
  refine ⟨fun ⟨f, hf, hd⟩ => ?_, fun ⟨f, hf, s, hs, e⟩ => ⟨f, hf, List.mem_map.2 ⟨s, hs, e.symm⟩⟩⟩
  obtain ⟨s, hs, e⟩ := List.mem_map.1 hd
  exact ⟨f, hf, s, hs, e.symm⟩
def rngF (l : List Fac) : Prop := ∀ f, f ∈ l → rngS f.sp
theorem find_set {F : List Fac} (h : allF F) (k : Fac) : SetP (findL F k) := by
  unfold findL
  cases hf : F.find? fun g => decide (cmpF g k = 0) with
  | none => exact .nil
  | some f0 =>
    obtain ⟨i, hi, rfl⟩ := List.getElem_of_mem (List.mem_of_find?_eq_some hf)
    exact (h i hi hi).1.2.2
theorem find_rng {F : List Fac} (h : rngF F) (k : Fac) : rngS (findL F k) := by
  unfold findL
  cases hf : F.find? fun g => decide (cmpF g k = 0) with
  | none => exact fun s hs => by simp at hs
  | some f0 => exact h f0 (List.mem_of_find?_eq_some hf)
theorem may_of {F : List Fac} (h : allF F) {f : Fac} (hf : f ∈ F) : mayF f := by
  obtain ⟨i, hi, rfl⟩ := List.getElem_of_mem hf
  exact (h i hi hi).1
theorem min_in {A B : List Fac} (ha : allF A) (hb : allF B) (ra : rngF A) (rb : rngF B) {f : Fac} (hf : f ∈ A) : SetP (minL f.sp (findL B f)) ∧ ∀ x, inS (minL f.sp (findL B f)) x ↔ (inS f.sp x ∧ ¬ inS (findL B f) x) :=
  min_ok (may_of ha hf).2.2 (find_set hb f) (fun _ h => rng_in (ra f hf) h) (find_rng rb f)
theorem less_cov {A B : List Fac} (ha : allF A) (hb : allF B) (ra : rngF A) (rb : rngF B) {T : Int} {put : Bool} {d : Dat} (hd : d ∈ lessL A B T put) : d.t = T ∧ d.add = put ∧ dmayP ⟨d.e, d.a, d.v, 1, false, d.fr, d.to⟩ ∧ (loT ≤ d.fr ∧ d.to ≤ hiT) ∧ ∀ x, covD d x → inS (findL A (keyF d)) x ∧ ¬ inS (findL B (keyF d)) x := by
  obtain ⟨f, hf, s, hs, rfl⟩ := lessL_mem.1 hd
  obtain ⟨m1, m2⟩ := min_in ha hb ra rb hf
  have hm := (may_of ha hf).1
  have hne := m1.1 s hs
  have hk : cmpF f (keyF ⟨f.e, f.a, f.v, T, put, s.f, s.t⟩) = 0 := (cmpF_z _ _).2 ⟨rfl, rfl, rfl⟩
  have hr := rng_of m1 (fun x hx => rng_in (ra f hf) ((m2 x).1 hx).1) s hs
  refine ⟨rfl, rfl, ?_, ⟨hr.1.1, hr.2.2⟩, fun x hx => ?_⟩
  · unfold dmayP datF at hm
    unfold dmayP
    exact ⟨hm.1, hm.2.1, hm.2.2.1, hm.2.2.2.1, hm.2.2.2.2.1, (by decide : (1 : Int) ≤ 1), (by decide : (1 : Int) ≤ 1099511627776), hne⟩
  · obtain ⟨h1, h2⟩ := (m2 x).1 ⟨s, hs, hx.1, hx.2⟩
    refine ⟨(find_rise (allF_rise ha) _ x).2 ⟨f, hf, hk, h1⟩, fun h => h2 ?_⟩
    obtain ⟨g, hg, hg1, hg2⟩ := (find_rise (allF_rise hb) _ x).1 h
    exact (find_rise (allF_rise hb) _ x).2 ⟨g, hg, cmpF_eq0 hg1 (cmpF_sym hk), hg2⟩
end Go.Proofs

namespace Go.Proofs
open Go.AL Go.Sort
end Go.Proofs
