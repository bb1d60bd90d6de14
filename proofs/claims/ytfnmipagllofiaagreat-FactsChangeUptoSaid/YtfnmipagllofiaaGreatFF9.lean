/- The plain law of changes: datoms behind which they come are folded to the facts that are asked for. -/
import Derived.Test.YtfnmipagllofiaaGreatFP4
import Derived.Test.YtfnmipagllofiaaGreatFF6
namespace Go.Proofs
open Go.AL Go.Sort
def sayD (f : Fac) (T : Int) (b : Bool) (sp : List Sp) : List Dat := sp.map fun s => ⟨f.e, f.a, f.v, T, b, s.f, s.t⟩
theorem sayD_take (f : Fac) (T : Int) (b : Bool) {sp : List Sp} {i : Nat} (h : i < sp.length) : sayD f T b (sp.take (i + 1)) = sayD f T b (sp.take i) ++ [⟨f.e, f.a, f.v, T, b, sp[i].f, sp[i].t⟩] := by
  unfold sayD
  rw [List.take_succ_eq_append_getElem h, List.map_append]; rfl
theorem sayD_len (f : Fac) (T : Int) (b : Bool) (sp : List Sp) : (sayD f T b sp).length = sp.length := by simp [sayD]
noncomputable def lessL (a b : List Fac) (T : Int) (put : Bool) : List Dat := a.flatMap fun f => sayD f T put (minL f.sp (findL b f))
noncomputable def chgL (old now : List Fac) (T : Int) : List Dat := lessL now old T true ++ lessL old now T false
theorem lessL_take (a b : List Fac) (T : Int) (put : Bool) {i : Nat} (h : i < a.length) : lessL (a.take (i + 1)) b T put = lessL (a.take i) b T put ++ sayD a[i] T put (minL a[i].sp (findL b a[i])) := by
  unfold lessL
  rw [List.take_succ_eq_append_getElem h, List.flatMap_append]
  simp
theorem lessL_mem {a b : List Fac} {T : Int} {put : Bool} {d : Dat} : d ∈ lessL a b T put ↔ ∃ f, f ∈ a ∧ ∃ s, s ∈ minL f.sp (findL b f) ∧ d = ⟨f.e, f.a, f.v, T, put, s.f, s.t⟩ := by
  unfold lessL sayD
  rw [List.mem_flatMap]
  refine ⟨fun ⟨f, hf, hd⟩ => ?_, fun ⟨f, hf, s, hs, e⟩ => ⟨f, hf, List.mem_map.2 ⟨s, hs, e.symm⟩⟩⟩
  obtain ⟨s, hs, e⟩ := List.mem_map.1 hd
  exact ⟨f, hf, s, hs, e.symm⟩
def rngF (l : List Fac) : Prop := ∀ f, f ∈ l → rngS f.sp
theorem find_set {F : List Fac} (h : allF F) (k : Fac) : SetP (findL F k) := by
  unfold findL
  cases hf : F.find? fun g => decide (cmpF g k = 0) with
  | none => exact .nil
  | some f0 =>
    obtain ⟨i, hi, rfl⟩ := List.getElem_of_mem (List.mem_of_find?_eq_some hf)
    exact (h i hi hi).1.2.2
theorem find_rng {F : List Fac} (h : rngF F) (k : Fac) : rngS (findL F k) := by
  unfold findL
  cases hf : F.find? fun g => decide (cmpF g k = 0) with
  | none => exact fun s hs => by simp at hs
  | some f0 => exact h f0 (List.mem_of_find?_eq_some hf)
theorem may_of {F : List Fac} (h : allF F) {f : Fac} (hf : f ∈ F) : mayF f := by
  obtain ⟨i, hi, rfl⟩ := List.getElem_of_mem hf
  exact (h i hi hi).1
theorem min_in {A B : List Fac} (ha : allF A) (hb : allF B) (ra : rngF A) (rb : rngF B) {f : Fac} (hf : f ∈ A) : SetP (minL f.sp (findL B f)) ∧ ∀ x, inS (minL f.sp (findL B f)) x ↔ (inS f.sp x ∧ ¬ inS (findL B f) x) :=
  min_ok (may_of ha hf).2.2 (find_set hb f) (fun _ h => rng_in (ra f hf) h) (find_rng rb f)
theorem less_cov {A B : List Fac} (ha : allF A) (hb : allF B) (ra : rngF A) (rb : rngF B) {T : Int} {put : Bool} {d : Dat} (hd : d ∈ lessL A B T put) : d.t = T ∧ d.add = put ∧ dmayP ⟨d.e, d.a, d.v, 1, false, d.fr, d.to⟩ ∧ (loT ≤ d.fr ∧ d.to ≤ hiT) ∧ ∀ x, covD d x → inS (findL A (keyF d)) x ∧ ¬ inS (findL B (keyF d)) x := by
  obtain ⟨f, hf, s, hs, rfl⟩ := lessL_mem.1 hd
  obtain ⟨m1, m2⟩ := min_in ha hb ra rb hf
  have hm := (may_of ha hf).1
  have hne := m1.1 s hs
  have hk : cmpF f (keyF ⟨f.e, f.a, f.v, T, put, s.f, s.t⟩) = 0 := (cmpF_z _ _).2 ⟨rfl, rfl, rfl⟩
  have hr := rng_of m1 (fun x hx => rng_in (ra f hf) ((m2 x).1 hx).1) s hs
  refine ⟨rfl, rfl, ?_, ⟨hr.1.1, hr.2.2⟩, fun x hx => ?_⟩
  · unfold dmayP datF at hm
    unfold dmayP
    exact ⟨hm.1, hm.2.1, hm.2.2.1, hm.2.2.2.1, hm.2.2.2.2.1, (by decide : (1 : Int) ≤ 1), (by decide : (1 : Int) ≤ 1099511627776), hne⟩
  · obtain ⟨h1, h2⟩ := (m2 x).1 ⟨s, hs, hx.1, hx.2⟩
    refine ⟨(find_rise (allF_rise ha) _ x).2 ⟨f, hf, hk, h1⟩, fun h => h2 ?_⟩
    obtain ⟨g, hg, hg1, hg2⟩ := (find_rise (allF_rise hb) _ x).1 h
    exact (find_rise (allF_rise hb) _ x).2 ⟨g, hg, cmpF_eq0 hg1 (cmpF_sym hk), hg2⟩
theorem less_has {A B : List Fac} (ha : allF A) (hb : allF B) (ra : rngF A) (rb : rngF B) (T : Int) (put : Bool) (k : Fac) {x : Int} (h1 : inS (findL A k) x) (h2 : ¬ inS (findL B k) x) : ∃ d, d ∈ lessL A B T put ∧ cmpF (keyF d) k = 0 ∧ covD d x := by
  obtain ⟨f, hf, hk, hx⟩ := (find_rise (allF_rise ha) k x).1 h1
  have h3 : ¬ inS (findL B f) x := fun h => h2 <| by
    obtain ⟨g, hg, hg1, hg2⟩ := (find_rise (allF_rise hb) _ x).1 h
    exact (find_rise (allF_rise hb) _ x).2 ⟨g, hg, cmpF_eq0 hg1 hk, hg2⟩
  obtain ⟨s, hs, hc⟩ := ((min_in ha hb ra rb hf).2 x).2 ⟨hx, h3⟩
  exact ⟨_, lessL_mem.2 ⟨f, hf, s, hs, rfl⟩, hk, hc⟩
theorem fac_key {a b : Fac} (h : cmpF a b = 0) (hs : a.sp = b.sp) : a = b := by
  obtain ⟨h1, h2, h3⟩ := (cmpF_z a b).1 h
  cases a; cases b; cases h1; cases h2; cases h3; cases hs; rfl
theorem facts_sub {A B : List Fac} (ha : allF A) (hb : allF B) (h : ∀ k y, inS (findL A k) y ↔ inS (findL B k) y) {f : Fac} (hf : f ∈ A) : f ∈ B := by
  obtain ⟨hm, hl, hp⟩ := may_of ha hf
  have hkk : ∀ k : Fac, cmpF k k = 0 := fun k => (cmpF_z k k).2 ⟨rfl, rfl, rfl⟩
  obtain ⟨y0, hy0⟩ : ∃ y, inS f.sp y := by
    have h0 := List.getElem_mem (l := f.sp) (n := 0) hl
    exact ⟨_, _, h0, Int.le_refl _, hp.1 _ h0⟩
  obtain ⟨g, hg, hgk, _⟩ := (find_rise (allF_rise hb) f y0).1 ((h f y0).1 ((find_rise (allF_rise ha) f y0).2 ⟨f, hf, hkk f, hy0⟩))
  have uniq : ∀ {L : List Fac}, allF L → ∀ {a b : Fac}, a ∈ L → b ∈ L → cmpF a b = 0 → a = b := fun {L} hL {a b} h1 h2 h3 => by
    obtain ⟨i, hi, rfl⟩ := List.getElem_of_mem h1
    obtain ⟨j, hj, rfl⟩ := List.getElem_of_mem h2
    have hp := List.pairwise_iff_getElem.1 (allF_rise hL)
    rcases Nat.lt_trichotomy i j with q | q | q
    · have := hp i j hi hj q; omega
    · subst q; rfl
    · have := hp j i hj hi q
      have := cmpF_sym h3; omega
  have e : f.sp = g.sp := set_ext hp (may_of hb hg).2.2 fun y => by
    have e1 := find_rise (allF_rise ha) f y
    have e2 := find_rise (allF_rise hb) f y
    constructor
    · intro hy
      obtain ⟨g', h1, h2, h3⟩ := e2.1 ((h f y).1 (e1.2 ⟨f, hf, hkk f, hy⟩))
      rw [uniq hb h1 hg (cmpF_eq0 h2 (cmpF_sym hgk))] at h3; exact h3
    · intro hy
      obtain ⟨f', h1, h2, h3⟩ := e1.1 ((h f y).2 (e2.2 ⟨g, hg, hgk, hy⟩))
      rw [uniq ha h1 hf h2] at h3; exact h3
  rw [fac_key (cmpF_sym hgk) e]; exact hg
theorem riseF_eq : ∀ {a b : List Fac}, riseF a → riseF b → (∀ x, x ∈ a ↔ x ∈ b) → a = b := fun h1 h2 h => rise_eq wc_cmpF h1 h2 h
theorem facts_ext {A B : List Fac} (ha : allF A) (hb : allF B) (h : ∀ k y, inS (findL A k) y ↔ inS (findL B k) y) : A = B :=
  riseF_eq (allF_rise ha) (allF_rise hb) fun _ => ⟨facts_sub ha hb h, facts_sub hb ha fun k y => (h k y).symm⟩
theorem change_ok {l : List Dat} {F now : List Fac} {T : Int} (hrg : rgD l) (hF : foldR l = some F) (hn : allF now) (rn : rngF now) (hT : ∀ d, d ∈ l → d.t < T) (hT1 : 1 ≤ T) (hT2 : T ≤ 1099511627776) :
    foldR (l ++ dsortL 1 (chgL F now T)) = some now ∧ rgD (dsortL 1 (chgL F now T)) ∧ ∀ d, d ∈ dsortL 1 (chgL F now T) → d.v.s.length < 9223372036854775808 := by
  have h0 := foldR_ok l hrg
  rw [hF] at h0
  obtain ⟨hm, ha, rF, hc, hk⟩ := h0
  have hmem : ∀ d, d ∈ dsortL 1 (chgL F now T) ↔ (d ∈ lessL now F T true ∨ d ∈ lessL F now T false) := fun d => by rw [dsort_iff]; unfold chgL; rw [List.mem_append]
  have c1 : ∀ {d}, d ∈ lessL now F T true → _ := fun {d} h => less_cov (d := d) hn ha rn rF h
  have c2 : ∀ {d}, d ∈ lessL F now T false → _ := fun {d} h => less_cov (d := d) ha hn rF rn h
  have hmay : ∀ d, d ∈ dsortL 1 (chgL F now T) → dmayP d ∧ d.t = T := fun d hd => by
    rcases (hmem d).1 hd with h | h
    · obtain ⟨e1, e2, e3, _⟩ := c1 h
      unfold dmayP at e3 ⊢
      exact ⟨⟨e3.1, e3.2.1, e3.2.2.1, e3.2.2.2.1, e3.2.2.2.2.1, by omega, by omega, e3.2.2.2.2.2.2.2⟩, e1⟩
    · obtain ⟨e1, e2, e3, _⟩ := c2 h
      unfold dmayP at e3 ⊢
      exact ⟨⟨e3.1, e3.2.1, e3.2.2.1, e3.2.2.2.1, e3.2.2.2.2.1, by omega, by omega, e3.2.2.2.2.2.2.2⟩, e1⟩
  have hrd : rgD (dsortL 1 (chgL F now T)) := fun d hd => by
    rcases (hmem d).1 hd with h | h
    · exact (c1 h).2.2.2.1
    · exact (c2 h).2.2.2.1
  have hkx : ∀ (L : List Fac) (_ : allF L) (k k' : Fac) (y : Int), cmpF k k' = 0 → inS (findL L k) y → inS (findL L k') y := fun L hL k k' y h hy => by
    obtain ⟨g, hg, hg1, hg2⟩ := (find_rise (allF_rise hL) _ y).1 hy
    exact (find_rise (allF_rise hL) _ y).2 ⟨g, hg, cmpF_eq0 hg1 h, hg2⟩
  refine ⟨?_, hrd, fun d hd => ?_⟩
  · have hr2 : rgD (l ++ dsortL 1 (chgL F now T)) := fun d hd => (List.mem_append.1 hd).elim (hrg d) (hrd d)
    have h1 := foldR_ok (l ++ dsortL 1 (chgL F now T)) hr2
    have hm2 : ∀ d, d ∈ l ++ dsortL 1 (chgL F now T) → dmayP d := fun d hd => (List.mem_append.1 hd).elim (hm d) fun h => (hmay d h).1
    have hc2 : ¬ confK (l ++ dsortL 1 (chgL F now T)) := by
      rintro ⟨d, hd, d', hd', hal, ht, a1, a2, x, x1, x2⟩
      rcases List.mem_append.1 hd with q | q <;> rcases List.mem_append.1 hd' with q' | q'
      · exact hc ⟨d, q, d', q', hal, ht, a1, a2, x, x1, x2⟩
      · have := hT d q; have := (hmay d' q').2; omega
      · have := hT d' q'; have := (hmay d q).2; omega
      · rcases (hmem d).1 q with r | r
        · rcases (hmem d').1 q' with r' | r'
          · have := (c1 r').2.1; rw [a2] at this; cases this
          · exact ((c1 r).2.2.2.2 x x1).2 (hkx F ha _ _ x (cmpF_sym (alP_iff.1 hal)) ((c2 r').2.2.2.2 x x2).1)
        · have := (c2 r).2.1; rw [a1] at this; cases this
    cases hG : foldR (l ++ dsortL 1 (chgL F now T)) with
    | none =>
      rw [hG] at h1
      exact absurd h1 (by rintro (h | h)
                          · exact h hm2
                          · exact hc2 h)
    | some G =>
      rw [hG] at h1
      obtain ⟨_, hg, rG, _, hgk⟩ := h1
      congr 1
      refine facts_ext hg hn fun k y => ?_
      rw [hgk]
      constructor
      · rintro ⟨d, hd, k1, k2, k3, k4⟩
        rcases List.mem_append.1 hd with q | q
        · refine Classical.byContradiction fun hno => ?_
          have hold : inS (findL F k) y := (hk k y).2 ⟨d, q, k1, k2, k3, fun d' hd' => k4 d' (List.mem_append_left _ hd')⟩
          obtain ⟨d', hd', e1, e2⟩ := less_has ha hn rF rn T false k hold hno
          have hd2 := (hmem d').2 (.inr hd')
          have := k4 d' (List.mem_append_right _ hd2) e1 e2
          have := hT d q
          have := (hmay d' hd2).2
          omega
        · rcases (hmem d).1 q with r | r
          · exact hkx now hn _ _ y k1 ((c1 r).2.2.2.2 y k3).1
          · have := (c2 r).2.1; rw [k2] at this; cases this
      · intro hy
        by_cases ho : inS (findL F k) y
        · obtain ⟨d, hd, k1, k2, k3, k4⟩ := (hk k y).1 ho
          refine ⟨d, List.mem_append_left _ hd, k1, k2, k3, fun d' hd' e1 e2 => ?_⟩
          rcases List.mem_append.1 hd' with q | q
          · exact k4 d' q e1 e2
          · rcases (hmem d').1 q with r | r
            · exact absurd (hkx F ha _ _ y (cmpF_sym e1) ho) ((c1 r).2.2.2.2 y e2).2
            · exact absurd (hkx now hn _ _ y (cmpF_sym e1) hy) ((c2 r).2.2.2.2 y e2).2
        · obtain ⟨d, hd, e1, e2⟩ := less_has hn ha rn rF T true k hy ho
          have hd2 := (hmem d).2 (.inl hd)
          refine ⟨d, List.mem_append_right _ hd2, e1, (c1 hd).2.1, e2, fun d' hd' _ _ => ?_⟩
          rw [(hmay d hd2).2]
          rcases List.mem_append.1 hd' with q | q
          · have := hT d' q; omega
          · exact Int.le_of_eq (hmay d' q).2
  · have := (hmay d hd).1.2.2.2.2.1
    unfold mayB at this; rw [dP_t] at this
    rcases this with ⟨_, _, _, h⟩ | ⟨_, h⟩ | ⟨_, h, _⟩ | ⟨_, _, h⟩ | ⟨_, _, h⟩
    · rw [h]; decide
    · rw [h]; decide
    · rw [h]; decide
    · omega
    · unfold WordP at h; omega
theorem change_none {now : List Fac} (hn : allF now) (rn : rngF now) (T : Int) : chgL now now T = [] := by
  have h : ∀ put, lessL now now T put = [] := fun put => by
    refine List.eq_nil_iff_forall_not_mem.2 fun d hd => ?_
    obtain ⟨_, _, h3, _, h5⟩ := less_cov hn hn rn rn hd
    have hne : d.fr < d.to := by unfold dmayP at h3; exact h3.2.2.2.2.2.2.2
    have := h5 d.fr ⟨Int.le_refl _, hne⟩
    exact this.2 this.1
  unfold chgL
  rw [h, h]; rfl
end Go.Proofs

namespace Go.Proofs
open Go.AL Go.Sort
end Go.Proofs

namespace Go.Proofs
open Go.AL Go.Sort
abbrev wtD (d : Dat) : Nat := 1 + d.v.s.length
abbrev wtF (f : Fac) : Nat := 1 + f.v.s.length + f.sp.length
def gr6 (l : List Fac) : Nat := (l.map fun f => 20 + f.v.s.length + 4 * f.sp.length).sum
theorem gr6_take (l : List Fac) (i : Nat) (h : i < l.length) : gr6 (l.take (i + 1)) = gr6 (l.take i) + (20 + l[i].v.s.length + 4 * l[i].sp.length) := by
  unfold gr6
  rw [List.take_succ_eq_append_getElem h, List.map_append, List.sum_append]; simp
theorem gr6_wt (l : List Fac) : gr6 l ≤ 20 * (l.map wtF).sum := by
  induction l with
  | nil => simp [gr6]
  | cons f l ih => unfold gr6 at *; simp only [List.map_cons, List.sum_cons, wtF]; omega
theorem gr6_mono (l : List Fac) (i : Nat) : gr6 (l.take i) ≤ gr6 l := by
  have h : gr6 (l.take i ++ l.drop i) = gr6 (l.take i) + gr6 (l.drop i) := by unfold gr6; rw [List.map_append, List.sum_append]
  rw [List.take_append_drop] at h; omega
theorem sum_mem {α : Type} {f : α → Nat} : ∀ {l : List α} {a : α}, a ∈ l → f a ≤ (l.map f).sum
  | [], a, h => by simp at h
  | b :: l, a, h => by
    simp only [List.map_cons, List.sum_cons]
    rcases List.mem_cons.1 h with e | e
    · subst e; omega
    · have := sum_mem (f := f) e; omega
theorem sum_len {α : Type} {f : α → Nat} (c : Nat) : ∀ {l : List α}, (∀ a, a ∈ l → c ≤ f a) → c * l.length ≤ (l.map f).sum
  | [], _ => by simp
  | b :: l, h => by
    have h1 := h b List.mem_cons_self
    have h2 := sum_len c (l := l) fun a ha => h a (List.mem_cons_of_mem _ ha)
    simp only [List.map_cons, List.sum_cons, List.length_cons, Nat.mul_succ]; omega
theorem gr6_few {l : List Fac} (h : ¬ 3000 < gr6 l) : l.length ≤ 150 ∧ ∀ f, f ∈ l → f.sp.length ≤ 750 ∧ f.v.s.length ≤ 3000 := by
  have h1 := sum_len (f := fun f : Fac => 20 + f.v.s.length + 4 * f.sp.length) 20 (l := l) fun a _ => by omega
  refine ⟨by unfold gr6 at h; omega, fun f hf => ?_⟩
  have h2 := sum_mem (f := fun f : Fac => 20 + f.v.s.length + 4 * f.sp.length) hf
  unfold gr6 at h; omega
theorem grS_small : ∀ (l : List Dat) (n : Int), 0 ≤ n → n + 20 * ((l.map wtD).sum : Int) ≤ 4611686018427387904 → n + 20 * (l.length : Int) ≤ grS n l
  | [], n, _, _ => by simp [grS]
  | d :: l, n, h0, h => by
    simp only [List.map_cons, List.sum_cons, wtD] at h
    have e1 : IntKind.i64.wrap (n + 20) = n + 20 := w64 _ (by omega) (by omega)
    have e2 : IntKind.i64.wrap (IntKind.i64.wrap (n + 20) + (d.v.s.length : Int)) = n + 20 + d.v.s.length := by rw [e1]; exact w64 _ (by omega) (by omega)
    have ih := grS_small l (n + 20 + d.v.s.length) (by omega) (by omega)
    simp only [grS, List.length_cons]
    rw [e2]
    omega
theorem grS_few {l : List Dat} (hw : (l.map wtD).sum ≤ 1048576) (h : ¬ 4000 < grS 0 l) : l.length ≤ 200 := by
  have := grS_small l 0 (by omega) (by omega)
  omega
end Go.Proofs

namespace Go.Proofs
open Go.AL Go.Sort
attribute [local irreducible] Go.AL.W Go.AL.WL Go.AL.WD Go.AL.POp Go.AL.PPOp Go.AL.POpS Go.AL.PC Go.AL.AC Go.AL.YW Go.AL.Ret Go.AL.Le Go.AL.thn Go.AL.inBlk Go.AL.scp
theorem fac_sl {F : List Fac} (h : allF F) {f : Fac} (hf : f ∈ F) : f.v.s.length < 9223372036854775808 := by
  obtain ⟨i, hi, rfl⟩ := List.getElem_of_mem hf
  have h := (h i hi hi).1.1.2.2.2.2.1
  have h : MayP F[i].v := by unfold mayB at h; rwa [dP_t] at h
  rcases h with ⟨_, _, _, h⟩ | ⟨_, h⟩ | ⟨_, h, _⟩ | ⟨_, _, h⟩ | ⟨_, _, h⟩
  · rw [h]; decide
  · rw [h]; decide
  · rw [h]; decide
  · omega
  · unfold WordP at h; omega
theorem findL_len {F : List Fac} {n : Nat} (k : Fac) (h : ∀ f, f ∈ F → f.sp.length ≤ n) : (findL F k).length ≤ n := by
  unfold findL
  cases hf : F.find? fun g => decide (cmpF g k = 0) with
  | none => exact Nat.zero_le _
  | some f0 => exact h f0 (List.mem_of_find?_eq_some hf)
end Go.Proofs
