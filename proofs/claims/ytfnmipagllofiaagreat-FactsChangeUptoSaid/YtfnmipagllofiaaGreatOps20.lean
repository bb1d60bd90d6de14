/- The plain law of spans: sets of instants. No condition. -/
import Derived.Test.YtfnmipagllofiaaGreatBase
import Derived.Test.YtfnmipagllofiaaGreatFQTV2
import Derived.Test.YtfnmipagllofiaaGreatFD2
import Derived.Test.YtfnmipagllofiaaGreatOps17
import Derived.Test.YtfnmipagllofiaaGreatOps16
namespace Go.Proofs
structure Sp where
  f : Int
  t : Int
theorem Sp.ext' {a b : Sp} (h1 : a.f = b.f) (h2 : a.t = b.t) : a = b := by
  obtain ⟨a, b⟩ := a; simp only at h1 h2; subst h1; subst h2; rfl
def inS (l : List Sp) (x : Int) : Prop := ∃ s, s ∈ l ∧ s.f ≤ x ∧ x < s.t
def neS (l : List Sp) : Prop := ∀ s, s ∈ l → s.f < s.t
def SetP (l : List Sp) : Prop := neS l ∧ l.Pairwise (fun a b => a.t < b.f)
theorem inS_nil (x : Int) : ¬ inS [] x := fun ⟨_, h, _⟩ => by simp at h
theorem inS_cons (s : Sp) (l : List Sp) (x : Int) : inS (s :: l) x ↔ (s.f ≤ x ∧ x < s.t) ∨ inS l x := by
  constructor
  · rintro ⟨r, hr, h⟩
    rcases List.mem_cons.1 hr with rfl | hr
    · exact .inl h
    · exact .inr ⟨r, hr, h⟩
  · rintro (h | ⟨r, hr, h⟩)
    · exact ⟨s, List.mem_cons_self, h⟩
    · exact ⟨r, List.mem_cons_of_mem _ hr, h⟩
theorem inS_append (a b : List Sp) (x : Int) : inS (a ++ b) x ↔ inS a x ∨ inS b x := by
  induction a with
  | nil => simp [inS_nil]
  | cons s a ih => rw [List.cons_append, inS_cons, inS_cons, ih, or_assoc]
theorem inS_perm {a b : List Sp} (h : a.Perm b) (x : Int) : inS a x ↔ inS b x :=
  ⟨fun ⟨s, hs, e⟩ => ⟨s, h.mem_iff.1 hs, e⟩, fun ⟨s, hs, e⟩ => ⟨s, h.mem_iff.2 hs, e⟩⟩
theorem SetP.nil : SetP [] := ⟨fun _ h => by simp at h, List.Pairwise.nil⟩
theorem setP_cons {s : Sp} {l : List Sp} : SetP (s :: l) ↔ s.f < s.t ∧ (∀ r, r ∈ l → s.t < r.f) ∧ SetP l := by
  constructor
  · rintro ⟨h1, h2⟩
    exact ⟨h1 s List.mem_cons_self, (List.pairwise_cons.1 h2).1, fun r hr => h1 r (List.mem_cons_of_mem _ hr), (List.pairwise_cons.1 h2).2⟩
  · rintro ⟨h1, h2, h3, h4⟩
    refine ⟨fun r hr => ?_, List.pairwise_cons.2 ⟨h2, h4⟩⟩
    rcases List.mem_cons.1 hr with rfl | hr
    · exact h1
    · exact h3 r hr
theorem setP_append {a b : List Sp} (ha : SetP a) (hb : SetP b) (h : ∀ s, s ∈ a → ∀ r, r ∈ b → s.t < r.f) : SetP (a ++ b) :=
  ⟨fun s hs => by rcases List.mem_append.1 hs with h | h; exact ha.1 s h; exact hb.1 s h, List.pairwise_append.2 ⟨ha.2, hb.2, h⟩⟩
theorem setP_one {s : Sp} (h : s.f < s.t) : SetP [s] := setP_cons.2 ⟨h, fun _ h => by simp at h, .nil⟩
theorem set_ext : ∀ {a b : List Sp}, SetP a → SetP b → (∀ x, inS a x ↔ inS b x) → a = b
  | [], [], _, _, _ => rfl
  | [], r :: b, _, hb, h => absurd ((h r.f).2 ((inS_cons _ _ _).2 (.inl ⟨Int.le_refl _, (setP_cons.1 hb).1⟩))) (inS_nil _)
  | s :: a, [], ha, _, h => absurd ((h s.f).1 ((inS_cons _ _ _).2 (.inl ⟨Int.le_refl _, (setP_cons.1 ha).1⟩))) (inS_nil _)
  | s :: a, r :: b, ha, hb, h => by
    obtain ⟨a1, a2, a3⟩ := setP_cons.1 ha
    obtain ⟨b1, b2, b3⟩ := setP_cons.1 hb
    have lo1 : r.f ≤ s.f := by
      rcases (inS_cons _ _ _).1 ((h s.f).1 ((inS_cons _ _ _).2 (.inl ⟨Int.le_refl _, a1⟩))) with e | ⟨u, hu, e⟩
      · exact e.1
      · have := b2 u hu; omega
    have lo2 : s.f ≤ r.f := by
      rcases (inS_cons _ _ _).1 ((h r.f).2 ((inS_cons _ _ _).2 (.inl ⟨Int.le_refl _, b1⟩))) with e | ⟨u, hu, e⟩
      · exact e.1
      · have := a2 u hu; omega
    have hi1 : r.t ≤ s.t := by
      rcases Int.lt_or_le s.t r.t with g | g
      · rcases (inS_cons _ _ _).1 ((h s.t).2 ((inS_cons _ _ _).2 (.inl ⟨by omega, g⟩))) with e | ⟨u, hu, e⟩
        · omega
        · have := a2 u hu; omega
      · exact g
    have hi2 : s.t ≤ r.t := by
      rcases Int.lt_or_le r.t s.t with g | g
      · rcases (inS_cons _ _ _).1 ((h r.t).1 ((inS_cons _ _ _).2 (.inl ⟨by omega, g⟩))) with e | ⟨u, hu, e⟩
        · omega
        · have := b2 u hu; omega
      · exact g
    have e : s = r := Sp.ext' (by omega) (by omega)
    subst e
    congr 1
    refine set_ext a3 b3 fun x => ⟨fun hx => ?_, fun hx => ?_⟩
    · rcases (inS_cons _ _ _).1 ((h x).1 ((inS_cons _ _ _).2 (.inr hx))) with e | e
      · obtain ⟨u, hu, e2⟩ := hx; have := a2 u hu; omega
      · exact e
    · rcases (inS_cons _ _ _).1 ((h x).2 ((inS_cons _ _ _).2 (.inr hx))) with e | e
      · obtain ⟨u, hu, e2⟩ := hx; have := b2 u hu; omega
      · exact e
theorem set_empty {a : List Sp} (ha : SetP a) (h : ∀ x, ¬ inS a x) : a = [] := set_ext ha .nil fun x => ⟨fun e => absurd e (h x), fun e => absurd e (inS_nil x)⟩
def SetI (l : List Sp) : Prop := ∀ (i : Nat) (h : i < l.length), l[i].f < l[i].t ∧ ∀ h0 : 0 < i, (l[i - 1]'(by omega)).t < l[i].f
theorem setI_iff (l : List Sp) : SetI l ↔ SetP l := by
  constructor
  · intro h
    refine ⟨fun s hs => ?_, List.pairwise_iff_getElem.2 ?_⟩
    · obtain ⟨i, hi, rfl⟩ := List.getElem_of_mem hs
      exact (h i hi).1
    · intro i j hi hj hij
      induction j with
      | zero => omega
      | succ j ih =>
        have h1 := (h (j + 1) hj).2 (by omega)
        simp only [Nat.add_sub_cancel] at h1
        rcases Nat.lt_or_ge i j with g | g
        · have h2 := ih (by omega) g
          have h3 := (h j (by omega)).1
          omega
        · have e : i = j := by omega
          subst e; exact h1
  · rintro ⟨h1, h2⟩ i hi
    exact ⟨h1 _ (List.getElem_mem _), fun h0 => List.pairwise_iff_getElem.1 h2 (i - 1) i (by omega) hi (by omega)⟩
def jn (out : List Sp) (s : Sp) : List Sp :=
  match out.getLast? with
  | none => out ++ [s]
  | some p => if s.f ≤ p.t then out.dropLast ++ [⟨p.f, max p.t s.t⟩] else out ++ [s]
def J (m : List Sp) : List Sp := m.foldl jn []
theorem jn_nil (s : Sp) : jn [] s = [s] := rfl
theorem jn_snoc (o : List Sp) (p s : Sp) : jn (o ++ [p]) s = if s.f ≤ p.t then o ++ [⟨p.f, max p.t s.t⟩] else o ++ [p] ++ [s] := by
  unfold jn; rw [List.getLast?_concat]; simp only [List.dropLast_concat]
theorem J_snoc (m : List Sp) (s : Sp) : J (m ++ [s]) = jn (J m) s := by unfold J; rw [List.foldl_append]; rfl
theorem snoc_cases {α : Type} (l : List α) : l = [] ∨ ∃ m x, l = m ++ [x] := by
  rcases List.eq_nil_or_concat l with h | ⟨m, x, h⟩
  · exact .inl h
  · exact .inr ⟨m, x, by rw [h, List.concat_eq_append]⟩
theorem snoc_ind {α : Type} {p : List α → Prop} (h0 : p []) (h1 : ∀ m x, p m → p (m ++ [x])) : ∀ l, p l := fun l => by
  have : ∀ (n : Nat) (l : List α), l.length = n → p l := fun n => by
    induction n with
    | zero => intro l hl; rw [List.length_eq_zero_iff.1 hl]; exact h0
    | succ n ih =>
      intro l hl
      rcases snoc_cases l with rfl | ⟨m, x, rfl⟩
      · exact h0
      · exact h1 m x (ih m (by simpa using hl))
  exact this _ l rfl
theorem setP_snoc {o : List Sp} {p : Sp} : SetP (o ++ [p]) ↔ SetP o ∧ p.f < p.t ∧ ∀ s, s ∈ o → s.t < p.f := by
  constructor
  · rintro ⟨h1, h2⟩
    obtain ⟨g1, g2, g3⟩ := List.pairwise_append.1 h2
    exact ⟨⟨fun s hs => h1 s (List.mem_append_left _ hs), g1⟩, h1 p (by simp), fun s hs => g3 s hs p (by simp)⟩
  · rintro ⟨h1, h2, h3⟩
    exact setP_append h1 (setP_one h2) fun s hs r hr => by rw [List.mem_singleton.1 hr]; exact h3 s hs
theorem inS_one (p : Sp) (x : Int) : inS [p] x ↔ p.f ≤ x ∧ x < p.t := by
  rw [inS_cons]; exact ⟨fun h => by rcases h with h | h; exact h; exact absurd h (inS_nil x), .inl⟩
theorem J_ok : ∀ m : List Sp, neS m → m.Pairwise (fun a b => a.f ≤ b.f) → SetP (J m) ∧ (∀ x, inS (J m) x ↔ inS m x) ∧ ∀ p, (J m).getLast? = some p → ∃ s, s ∈ m ∧ p.f = s.f := by
  refine snoc_ind ?_ ?_
  · intro _ _; exact ⟨.nil, fun x => Iff.rfl, fun p h => by simp [J] at h⟩
  · intro m s ih hn hp
    obtain ⟨g1, _, g3⟩ := List.pairwise_append.1 hp
    obtain ⟨i1, i2, i3⟩ := ih (fun r hr => hn r (List.mem_append_left _ hr)) g1
    have hs : s.f < s.t := hn s (by simp)
    rw [J_snoc]
    rcases snoc_cases (J m) with e | ⟨o, p, e⟩
    · rw [e, jn_nil]
      refine ⟨setP_one hs, fun x => ?_, fun p h => ?_⟩
      · rw [inS_append, ← i2 x, e]; exact ⟨.inr, fun h => by rcases h with h | h; exact absurd h (inS_nil x); exact h⟩
      · simp at h; subst h; exact ⟨s, by simp, rfl⟩
    · rw [e] at i1 i2 i3
      obtain ⟨k1, k2, k3⟩ := setP_snoc.1 i1
      obtain ⟨q, hq, hqf⟩ := i3 p (by simp)
      have hle : p.f ≤ s.f := by rw [hqf]; exact g3 q hq s (by simp)
      rw [e, jn_snoc]
      by_cases h : s.f ≤ p.t
      · rw [if_pos h]
        refine ⟨setP_snoc.2 ⟨k1, by show p.f < max p.t s.t; omega, k3⟩, fun x => ?_, fun r hr => ?_⟩
        · rw [inS_append, inS_one, inS_append, inS_one, ← i2 x, inS_append, inS_one]
          simp only []
          constructor
          · rintro (h1 | h1)
            · exact .inl (.inl h1)
            · by_cases h2 : x < p.t
              · exact .inl (.inr ⟨h1.1, h2⟩)
              · exact .inr (by omega)
          · rintro ((h1 | h1) | h1)
            · exact .inl h1
            · exact .inr (by omega)
            · exact .inr (by omega)
        · simp at hr; subst hr; exact ⟨q, List.mem_append_left _ hq, hqf⟩
      · rw [if_neg h]
        refine ⟨setP_snoc.2 ⟨i1, hs, fun r hr => ?_⟩, fun x => ?_, fun r hr => ?_⟩
        · rcases List.mem_append.1 hr with h1 | h1
          · have := k3 r h1; omega
          · rw [List.mem_singleton.1 h1]; omega
        · rw [inS_append, inS_append m, ← i2 x]
        · simp at hr; subst hr; exact ⟨s, by simp, rfl⟩
def meetL (a b : List Sp) : List Sp :=
  match a, b with
  | s :: a, r :: b => (if max s.f r.f < min s.t r.t then [⟨max s.f r.f, min s.t r.t⟩] else []) ++ (if s.t < r.t then meetL a (r :: b) else meetL (s :: a) b)
  | [], _ => []
  | _ :: _, [] => []
termination_by a.length + b.length
decreasing_by all_goals (simp; try omega)
theorem meetL_nil (b : List Sp) : meetL [] b = [] := by unfold meetL; rfl
theorem meetL_nil2 (a : List Sp) : meetL a [] = [] := by cases a <;> (unfold meetL; rfl)
theorem meetL_cons (s r : Sp) (a b : List Sp) : meetL (s :: a) (r :: b) = (if max s.f r.f < min s.t r.t then [⟨max s.f r.f, min s.t r.t⟩] else []) ++ (if s.t < r.t then meetL a (r :: b) else meetL (s :: a) b) := by rw [meetL]
theorem meet_of : ∀ (n : Nat) (a b : List Sp), a.length + b.length ≤ n → ∀ u, u ∈ meetL a b → ∃ p, p ∈ a ∧ ∃ q, q ∈ b ∧ u.f = max p.f q.f ∧ u.t = min p.t q.t ∧ u.f < u.t
  | _, [], b, _, u, h => by rw [meetL_nil] at h; simp at h
  | _, _ :: _, [], _, u, h => by rw [meetL_nil2] at h; simp at h
  | 0, _ :: _, _ :: _, h, _, _ => by simp at h
  | n + 1, s :: a, r :: b, hn, u, h => by
    rw [meetL_cons] at h
    simp only [List.length_cons] at hn
    rcases List.mem_append.1 h with h | h
    · split at h
      · rw [List.mem_singleton.1 h]; exact ⟨s, List.mem_cons_self, r, List.mem_cons_self, rfl, rfl, by assumption⟩
      · simp at h
    · split at h
      · obtain ⟨p, hp, q, hq, e⟩ := meet_of n a (r :: b) (by simp; omega) u h
        exact ⟨p, List.mem_cons_of_mem _ hp, q, hq, e⟩
      · obtain ⟨p, hp, q, hq, e⟩ := meet_of n (s :: a) b (by simp; omega) u h
        exact ⟨p, hp, q, List.mem_cons_of_mem _ hq, e⟩
theorem meet_ok : ∀ (n : Nat) (a b : List Sp), a.length + b.length ≤ n → SetP a → SetP b → SetP (meetL a b) ∧ ∀ x, inS (meetL a b) x ↔ (inS a x ∧ inS b x)
  | _, [], b, _, _, _ => by rw [meetL_nil]; exact ⟨.nil, fun x => ⟨fun h => absurd h (inS_nil x), fun h => absurd h.1 (inS_nil x)⟩⟩
  | _, _ :: _, [], _, _, _ => by rw [meetL_nil2]; exact ⟨.nil, fun x => ⟨fun h => absurd h (inS_nil x), fun h => absurd h.2 (inS_nil x)⟩⟩
  | 0, _ :: _, _ :: _, h, _, _ => by simp at h
  | n + 1, s :: a, r :: b, hn, ha, hb => by
    simp only [List.length_cons] at hn
    obtain ⟨a1, a2, a3⟩ := setP_cons.1 ha
    obtain ⟨b1, b2, b3⟩ := setP_cons.1 hb
    rw [meetL_cons]
    have hone : SetP (if max s.f r.f < min s.t r.t then [(⟨max s.f r.f, min s.t r.t⟩ : Sp)] else []) := by
      split
      · exact setP_one (by assumption)
      · exact .nil
    have hone2 : ∀ x, inS (if max s.f r.f < min s.t r.t then [(⟨max s.f r.f, min s.t r.t⟩ : Sp)] else []) x ↔ ((s.f ≤ x ∧ x < s.t) ∧ (r.f ≤ x ∧ x < r.t)) := fun x => by
      split
      · rw [inS_one]; simp only []; omega
      · exact ⟨fun h => absurd h (inS_nil x), fun h => by omega⟩
    have hb1 : ∀ u, u ∈ (if max s.f r.f < min s.t r.t then [(⟨max s.f r.f, min s.t r.t⟩ : Sp)] else []) → u.t = min s.t r.t := fun u hu => by
      split at hu
      · rw [List.mem_singleton.1 hu]
      · simp at hu
    by_cases hc : s.t < r.t
    · rw [if_pos hc]
      obtain ⟨k1, k2⟩ := meet_ok n a (r :: b) (by simp; omega) a3 hb
      refine ⟨setP_append hone k1 fun u hu v hv => ?_, fun x => ?_⟩
      · obtain ⟨p, hp, q, hq, e1, _⟩ := meet_of _ _ _ (Nat.le_refl _) v hv
        have := a2 p hp; have := hb1 u hu; omega
      · rw [inS_append, hone2, k2, inS_cons, inS_cons]
        constructor
        · rintro (h | h)
          · exact ⟨.inl h.1, .inl h.2⟩
          · exact ⟨.inr h.1, h.2⟩
        · rintro ⟨h | h, h2⟩
          · rcases h2 with h2 | ⟨v, hv, h2⟩
            · exact .inl ⟨h, h2⟩
            · have := b2 v hv; omega
          · exact .inr ⟨h, h2⟩
    · rw [if_neg hc]
      obtain ⟨k1, k2⟩ := meet_ok n (s :: a) b (by simp; omega) ha b3
      refine ⟨setP_append hone k1 fun u hu v hv => ?_, fun x => ?_⟩
      · obtain ⟨p, hp, q, hq, e1, _⟩ := meet_of _ _ _ (Nat.le_refl _) v hv
        have := b2 q hq; have := hb1 u hu; omega
      · rw [inS_append, hone2, k2, inS_cons, inS_cons]
        constructor
        · rintro (h | h)
          · exact ⟨.inl h.1, .inl h.2⟩
          · exact ⟨h.1, .inr h.2⟩
        · rintro ⟨h, h2 | h2⟩
          · rcases h with h | ⟨v, hv, h⟩
            · exact .inl ⟨h, h2⟩
            · have := a2 v hv; omega
          · exact .inr ⟨h, h2⟩
abbrev loT : Int := -9223372036854775808
abbrev hiT : Int := 9223372036854775807
def restL (at_ : Int) : List Sp → List Sp
  | [] => if at_ < hiT then [⟨at_, hiT⟩] else []
  | s :: l => (if at_ < s.f then [⟨at_, s.f⟩] else []) ++ restL s.t l
def rngS (l : List Sp) : Prop := ∀ s, s ∈ l → (loT ≤ s.f ∧ s.f ≤ hiT) ∧ loT ≤ s.t ∧ s.t ≤ hiT
theorem rest_ge : ∀ (l : List Sp) (a : Int), SetP l → (∀ s, s ∈ l → a ≤ s.f) → ∀ u, u ∈ restL a l → a ≤ u.f
  | [], a, _, _, u, h => by
    unfold restL at h; split at h
    · rw [List.mem_singleton.1 h]; exact Int.le_refl _
    · simp at h
  | s :: l, a, hs, hl, u, h => by
    obtain ⟨h1, h2, h3⟩ := setP_cons.1 hs
    unfold restL at h
    rcases List.mem_append.1 h with h | h
    · split at h
      · rw [List.mem_singleton.1 h]; exact Int.le_refl _
      · simp at h
    · have := rest_ge l s.t h3 (fun r hr => Int.le_of_lt (h2 r hr)) u h
      have := hl s List.mem_cons_self
      omega
theorem rest_ok : ∀ (l : List Sp) (a : Int), SetP l → rngS l → (∀ s, s ∈ l → a ≤ s.f) → SetP (restL a l) ∧ ∀ x, inS (restL a l) x ↔ (a ≤ x ∧ x < hiT ∧ ¬ inS l x)
  | [], a, _, _, _ => by
    unfold restL; split
    · exact ⟨setP_one (by assumption), fun x => by rw [inS_one]; exact ⟨fun h => ⟨h.1, h.2, inS_nil x⟩, fun h => ⟨h.1, h.2.1⟩⟩⟩
    · exact ⟨.nil, fun x => ⟨fun h => absurd h (inS_nil x), fun h => by omega⟩⟩
  | s :: l, a, hs, hr, hl => by
    obtain ⟨h1, h2, h3⟩ := setP_cons.1 hs
    have hle := hl s List.mem_cons_self
    have hrs := hr s List.mem_cons_self
    obtain ⟨k1, k2⟩ := rest_ok l s.t h3 (fun r e => hr r (List.mem_cons_of_mem _ e)) (fun r e => Int.le_of_lt (h2 r e))
    have k3 := rest_ge l s.t h3 (fun r e => Int.le_of_lt (h2 r e))
    unfold restL
    constructor
    · refine setP_append (by split; exact setP_one (by assumption); exact .nil) k1 fun u hu v hv => ?_
      have := k3 v hv
      split at hu
      · rw [List.mem_singleton.1 hu]; simp only []; omega
      · simp at hu
    · intro x
      rw [inS_append, k2, inS_cons]
      have e1 : inS (if a < s.f then [(⟨a, s.f⟩ : Sp)] else []) x ↔ (a ≤ x ∧ x < s.f) := by
        split
        · rw [inS_one]
        · exact ⟨fun h => absurd h (inS_nil x), fun h => by omega⟩
      rw [e1]
      constructor
      · rintro (h | h)
        · refine ⟨h.1, by omega, ?_⟩
          rintro (g | ⟨u, hu, g⟩)
          · omega
          · have := h2 u hu; omega
        · refine ⟨by omega, h.2.1, ?_⟩
          rintro (g | g)
          · omega
          · exact h.2.2 g
      · rintro ⟨g1, g2, g3⟩
        by_cases h : x < s.f
        · exact .inl ⟨g1, h⟩
        · have : s.t ≤ x := by
            rcases Int.lt_or_le x s.t with e | e
            · exact absurd (.inl ⟨by omega, e⟩) g3
            · exact e
          exact .inr ⟨this, g2, fun e => g3 (.inr e)⟩
end Go.Proofs

namespace Go.Proofs
open Go.AL
attribute [local irreducible] Go.AL.W Go.AL.WL Go.AL.WD Go.AL.POp Go.AL.PPOp Go.AL.POpS Go.AL.PC Go.AL.AC Go.AL.YW Go.AL.Ret Go.AL.Le Go.AL.thn Go.AL.inBlk Go.AL.scp
theorem renN {rg rg' : List (Nat × AV)} {h : List AObj} (hr : RenL [] rg rg') : Ren ⟨[], 0⟩ [] rg h rg' [] := ⟨List.nodup_nil, fun r hr => absurd hr (Nat.not_lt_zero r), fun r hr => (by cases hr), hr, trivial⟩
abbrev sC (s : Sp) : List AV := [.sc (.int .i64 s.f), .sc (.int .i64 s.t)]
abbrev eS (s : Sp) : AV := .ag (sC s)
theorem sC_row {l : List Sp} : ∀ e, e ∈ l.map sC → e.length = 2 := fun e he => by obtain ⟨a, _, rfl⟩ := List.mem_map.1 he; rfl
abbrev sl2 (l : List Sp) : AV := .sl none 2 (l.map sC)
theorem dP_T {p : Prop} (h : p) : true = dP p := (dP_t.mpr h).symm
theorem dP_F {p : Prop} (h : ¬ p) : false = dP p := (dP_f.mpr h).symm
theorem setN {l : List Sp} (i : Nat) (hi : i < l.length) (h : l[i].t ≤ l[i].f ∨ ∃ h0 : 0 < i, l[i].f ≤ (l[i - 1]'(by omega)).t) : ¬ SetP l := fun hs => by
  have := (setI_iff l).2 hs i hi
  rcases h with h | ⟨h0, h⟩
  · omega
  · have := this.2 h0; omega
set_option maxHeartbeats 4000000 in
theorem set_pc [GlobF Tryz.prog] (l : List Sp) (hl : l.length < 4611686018427387904) : PC Tryz.prog 64 [sl2 l] (.sc (.bool (dP (SetP l)))) := by
  refine PC.of_body Tryz.func64 Tryz.ntmps64 rfl rfl rfl ?_
  repeat' first
    | (apply p1 (hd := rfl); case hop => first | (apply D_move; rfl) | (apply D_assign; rfl) | (apply D_lenM; rfl))
    | refine W_seq ?_
    | refine W_region ?_
    | refine WL_nil ?_
    | refine tn ?_
    | refine W_block ?_
  refine W_loopR (X := Nat) (fun i => [(0, sl2 l), (5, sl2 l), (6, .sc (.int .i64 l.length)), (7, .sc (.int .i64 (i : Int)))]) (fun _ => [])
    (fun i => i ≤ l.length ∧ ∀ (j : Nat) (h : j < l.length), j < i → l[j].f < l[j].t ∧ ∀ h0 : 0 < j, (l[j - 1]'(by omega)).t < l[j].f) (fun i => l.length - i) 0 ⟨by omega, fun j h h' => by omega⟩ ⟨rfl, rfl, rfl, rfl, trivial⟩ rfl ?_
  rintro i ⟨hi, hz⟩
  have hnext : ∀ (h : i < l.length), l[i].f < l[i].t → (∀ h0 : 0 < i, (l[i - 1]'(by omega)).t < l[i].f) → ∀ (j : Nat) (h : j < l.length), j < i + 1 → l[j].f < l[j].t ∧ ∀ h0 : 0 < j, (l[j - 1]'(by omega)).t < l[j].f := fun h k1 k2 j hj hji => by
    by_cases e : j = i
    · subst e; exact ⟨k1, k2⟩
    · exact hz j hj (by omega)
  have hend : l.length ≤ i → true = dP (SetP l) := fun h => dP_T ((setI_iff l).1 fun j hj => hz j hj (by omega))
  by_cases h0 : i = 0
  · subst h0
    repeat' first
      | (apply p1 (hd := rfl); case hop => first | (apply D_move; rfl) | (apply D_assign; rfl) | (apply D_int; rfl; rfl; rfl) | (apply D_loadW; rfl; rfl) | (apply D_idxAn; rfl; rfl; (first | omega | (simp; done))))
      | refine W_seq ?_
      | refine W_region ?_
      | (refine idC ?_; first | refine c1 rfl ?_ | refine c0 rfl ?_ | refine cs rfl (fun _ => ?_) (fun _ => ?_))
      | refine WL_nil ?_
      | refine tn ?_
      | refine tr ?_
      | refine br ?_
      | refine bn ?_
      | refine te ?_
      | (refine idB ?_; refine bh rfl ?_)
      | refine W_skip ?_
      | refine W_block ?_
      | refine W_exit ?_
      | refine W_ret ?_
      | (refine idR ?_; refine ret1 rfl rfl rfl ?_)
      | (refine idA ?_; refine m_alloc rfl ?_)
      | (refine idS ?_; refine pS (S_store rfl rfl rfl rfl rfl rfl rfl) ?_)
      | refine Le.bool ?_
      | (refine idW ?_; refine W_draw0 rfl ?_)
      | (apply d1 (hd := rfl); case hop => first | (apply D_move; rfl) | (apply D_load1; rfl) | (apply D_fld; rfl) | (apply D_pickT; rfl; rfl) | (apply D_pickF; rfl; rfl) | (apply D_int; rfl; rfl; rfl) | (apply D_idxA; rfl; rfl; omega; (first | omega | (simp; done) | (simp; omega))) | exact D_fldB rfl)
      | (refine idDg ?_; first | refine dg0t rfl rfl rfl ?_ | refine dg0f rfl rfl rfl ?_ | refine dg0u rfl rfl rfl ?_ | refine dgr rfl rfl ?_ | refine dgs rfl rfl (fun _ => ?_) (fun _ => ?_))
      | (refine idDn ?_; refine dL _ (fun hp' hs => D_loadB1 rfl (hs.trans rfl) rfl) rfl ?_)
      | refine WD_nil (by first | decide +kernel | kernel_rfl | rfl) ?_
    · rename_i k1 k2
      exact dP_F (setN 0 (by omega) (.inl k2))
    · exfalso; omega
    · exfalso; omega
    · rename_i k1 k2 k3
      exact ⟨rfl, 0 + 1, ⟨by omega, hnext (by omega) k2 (fun h => by omega)⟩, by omega, [], renN ⟨⟨_, rfl, .pur⟩, ⟨_, rfl, .pur⟩, ⟨_, rfl, .pur⟩, ⟨_, rfl, by rw [wsucc 0 (by omega)]; exact .pur⟩, trivial⟩⟩
    · exact hend (by omega)
  · have hsub : IntKind.i64.wrap ((i : Int) - 1) = ((i - 1 : Nat) : Int) := by rw [w64 _ (by omega) (by omega)]; omega
    have hix : (IntKind.i64.wrap ((i : Int) - 1)).toNat = i - 1 := by rw [hsub]; rfl
    repeat' first
      | (apply p1 (hd := rfl); case hop => first | (apply D_move; rfl) | (apply D_assign; rfl) | (apply D_int; rfl; rfl; rfl) | (apply D_loadW; rfl; rfl) | (apply D_idxAn; rfl; rfl; (first | omega | (simp; done))))
      | refine W_seq ?_
      | refine W_region ?_
      | (refine idC ?_; first | refine c1 rfl ?_ | refine c0 rfl ?_ | refine cs rfl (fun _ => ?_) (fun _ => ?_))
      | refine WL_nil ?_
      | refine tn ?_
      | refine tr ?_
      | refine br ?_
      | refine bn ?_
      | refine te ?_
      | (refine idB ?_; refine bh rfl ?_)
      | refine W_skip ?_
      | refine W_block ?_
      | refine W_exit ?_
      | refine W_ret ?_
      | (refine idR ?_; refine ret1 rfl rfl rfl ?_)
      | (refine idA ?_; refine m_alloc rfl ?_)
      | (refine idS ?_; refine pS (S_store rfl rfl rfl rfl rfl rfl rfl) ?_)
      | refine Le.bool ?_
      | (refine idW ?_; refine W_draw0 rfl ?_)
      | (apply d1 (hd := rfl); case hop => first | (apply D_move; rfl) | (apply D_load1; rfl) | (apply D_fld; rfl) | (apply D_pickT; rfl; rfl) | (apply D_pickF; rfl; rfl) | (apply D_int; rfl; rfl; rfl) | (apply D_idxA; rfl; rfl; omega; (first | omega | (simp; done) | (simp; omega))) | exact D_fldB rfl)
      | (refine idDg ?_; first | refine dg0t rfl rfl rfl ?_ | refine dg0f rfl rfl rfl ?_ | refine dg0u rfl rfl rfl ?_ | refine dgr rfl rfl ?_ | refine dgs rfl rfl (fun _ => ?_) (fun _ => ?_))
      | (refine idDn ?_; refine dL _ (fun hp' hs => D_loadB1 rfl (hs.trans rfl) rfl) rfl ?_)
      | refine WD_nil (by first | decide +kernel | kernel_rfl | rfl) ?_
    · rename_i k1 k2
      exact dP_F (setN i (by omega) (.inl k2))
    · rename_i k1 k2 k3 k4
      simp only [hix] at k4
      exact dP_F (setN i (by omega) (.inr ⟨by omega, k4⟩))
    · rename_i k1 k2 k3 k4
      simp only [hix] at k4
      exact ⟨rfl, i + 1, ⟨by omega, hnext (by omega) k2 (fun _ => k4)⟩, by omega, [], renN ⟨⟨_, rfl, .pur⟩, ⟨_, rfl, .pur⟩, ⟨_, rfl, .pur⟩, ⟨_, rfl, by rw [wsucc i (by omega)]; exact .pur⟩, trivial⟩⟩
    · exfalso; omega
    · exact hend (by omega)
set_option maxHeartbeats 4000000 in
theorem make1_pc [GlobF Tryz.prog] (s : Sp) : PC Tryz.prog 130 [eS s] (.sc (.bool (dP (s.t ≤ s.f)))) := by
  refine PC.of_body Tryz.func130 Tryz.ntmps130 rfl rfl rfl ?_
  repeat' first
    | (apply p1 (hd := rfl); case hop => first | (apply D_assign; rfl) | (apply D_load1; rfl) | (apply D_fld; rfl) | (apply D_int; rfl; rfl; rfl) | (apply D_box; rfl; rfl))
    | refine W_seq ?_
    | refine W_region ?_
    | refine WL_nil ?_
    | refine tn ?_
    | refine W_ret ?_
    | (refine idR ?_; refine ret1 rfl rfl rfl ?_)
    | refine Le.bool ?_
  all_goals first
    | (refine dP_eq ?_; simp [iLe_t, iLt_t, *]; done)
    | skip
set_option maxHeartbeats 4000000 in
theorem joined1_pc [GlobF Tryz.prog] (a b : Sp) : PC Tryz.prog 132 [eS a, eS b] (.sc (.int .i64 (cmpI a.f b.f))) := by
  refine PC.of_body Tryz.func132 Tryz.ntmps132 rfl rfl rfl ?_
  repeat' first
    | (apply p1 (hd := rfl); case hop => first | (apply D_assign; rfl) | (apply D_pc (cmpInt64_pc _ _); rfl; exact .same rfl (.same rfl .nil)) | (apply D_load1; rfl) | (apply D_fld; rfl) | (apply D_box; rfl; rfl))
    | refine W_seq ?_
    | refine W_region ?_
    | refine WL_nil ?_
    | refine tn ?_
    | refine W_ret ?_
    | (refine idR ?_; refine ret1 rfl rfl rfl ?_)
    | refine Le.int ?_
  all_goals rfl
open Classical in
noncomputable def idxS (p : Sp → Prop) : List Sp → Int
  | [] => -1
  | s :: l => if p s then 0 else if idxS p l = -1 then -1 else idxS p l + 1
theorem idxS_lo (p : Sp → Prop) : ∀ l, -1 ≤ idxS p l
  | [] => Int.le_refl _
  | s :: l => by
    have := idxS_lo p l
    unfold idxS; split
    · omega
    · split <;> omega
theorem idxS_at (p : Sp → Prop) : ∀ (l : List Sp) (n : Nat) (hn : n < l.length), (∀ (j : Nat) (h : j < l.length), j < n → ¬ p l[j]) → p l[n] → idxS p l = n
  | [], n, hn, _, _ => by simp at hn
  | s :: l, 0, hn, _, h => by unfold idxS; rw [if_pos (by simpa using h)]; rfl
  | s :: l, n + 1, hn, h0, h => by
    have := idxS_at p l n (by simpa using hn) (fun j hj hjn => by have := h0 (j + 1) (by simpa using hj) (by omega); simpa using this) (by simpa using h)
    unfold idxS; rw [if_neg (by have := h0 0 (by simp) (by omega); simpa using this), this, if_neg (by omega)]; omega
theorem idxS_no (p : Sp → Prop) : ∀ (l : List Sp), (∀ (j : Nat) (h : j < l.length), ¬ p l[j]) → idxS p l = -1
  | [], _ => rfl
  | s :: l, h => by
    have := idxS_no p l (fun j hj => by have := h (j + 1) (by simpa using hj); simpa using this)
    unfold idxS; rw [if_neg (by have := h 0 (by simp); simpa using this), if_pos this]
theorem idxS_ge {p : Sp → Prop} {l : List Sp} : 0 ≤ idxS p l ↔ ∃ s, s ∈ l ∧ p s := by
  induction l with
  | nil => simp [idxS]
  | cons s l ih =>
    have lo := idxS_lo p l
    unfold idxS
    by_cases h : p s
    · rw [if_pos h]; exact ⟨fun _ => ⟨s, List.mem_cons_self, h⟩, fun _ => Int.le_refl _⟩
    · rw [if_neg h]
      constructor
      · intro e
        split at e
        · omega
        · obtain ⟨r, hr, h⟩ := ih.1 (by omega); exact ⟨r, List.mem_cons_of_mem _ hr, h⟩
      · rintro ⟨r, hr, h2⟩
        rcases List.mem_cons.1 hr with rfl | hr
        · exact absurd h2 h
        · have := ih.2 ⟨r, hr, h2⟩
          rw [if_neg (by omega)]; omega
set_option maxHeartbeats 4000000 in
theorem idxM_pc [GlobF Tryz.prog] (l : List Sp) (hl : l.length < 4611686018427387904) : PC Tryz.prog 92 [sl2 l, .sc (.func (.func 130) #[] #[])] (.sc (.int .i64 (idxS (fun s => s.t ≤ s.f) l))) := by
  refine PC.of_body Tryz.func92 Tryz.ntmps92 rfl rfl rfl ?_
  repeat' first
    | (apply p1 (hd := rfl); case hop => first | (apply D_move; rfl) | (apply D_assign; rfl) | (apply D_lenM; rfl))
    | refine W_seq ?_
    | refine W_region ?_
    | refine WL_nil ?_
    | refine tn ?_
    | refine W_block ?_
  refine W_loopL (X := Nat) (fun i => [(0, sl2 l), (1, .sc (.func (.func 130) #[] #[])), (7, .sc (.int .i64 l.length)), (8, .sc (.int .i64 (i : Int)))]) (fun _ => [])
    (fun i => i ≤ l.length ∧ ∀ (j : Nat) (h : j < l.length), j < i → ¬ (l[j].t ≤ l[j].f)) (fun i => l.length - i) 0 ⟨by omega, fun j h h' => by omega⟩ ⟨rfl, rfl, rfl, rfl, trivial⟩ rfl ?_
  rintro i ⟨hi, hz⟩
  repeat' first
    | (apply p1 (hd := rfl); case hop => first | (apply D_move; rfl) | (apply D_assign; rfl) | (apply D_pc (make1_pc (l[i]'(by omega))); rfl; exact .same rfl .nil) | (apply D_int; rfl; rfl; rfl) | (apply D_loadW; rfl; rfl) | (apply D_idxAn; rfl; rfl; (first | omega | (simp; done))))
    | refine W_seq ?_
    | refine W_region ?_
    | (refine idC ?_; refine cs rfl (fun _ => ?_) (fun _ => ?_))
    | refine WL_nil ?_
    | refine tn ?_
    | refine tr ?_
    | refine br ?_
    | refine bn ?_
    | refine te ?_
    | (refine idB ?_; refine bh rfl ?_)
    | refine W_skip ?_
    | refine W_block ?_
    | refine W_exit ?_
    | refine W_ret ?_
    | (refine idR ?_; refine ret1 rfl rfl rfl ?_)
    | refine Le.int ?_
  · rename_i k1 k2
    exact (idxS_at (fun s => s.t ≤ s.f) l i (by omega) hz k2).symm
  · rename_i k1 k2
    refine ⟨rfl, i + 1, ⟨by omega, fun j h hj => ?_⟩, by omega, ⟨rfl, rfl, rfl, ieq (wsucc i (by omega)), trivial⟩, rfl⟩
    by_cases e : j = i
    · subst e; exact k2
    · exact hz j h (by omega)
  · exact (idxS_no (fun s => s.t ≤ s.f) l fun j h => hz j h (by omega)).symm
set_option maxHeartbeats 4000000 in
theorem conM_pc [GlobF Tryz.prog] (l : List Sp) (hl : l.length < 4611686018427387904) : PC Tryz.prog 65 [sl2 l, .sc (.func (.func 130) #[] #[])] (.sc (.bool (dP (¬ neS l)))) := by
  refine PC.of_body Tryz.func65 Tryz.ntmps65 rfl rfl rfl ?_
  repeat' first
    | (apply p1 (hd := rfl); case hop => first | (apply D_move; rfl) | (apply D_assign; rfl) | (apply D_pc (idxM_pc l hl); rfl; exact .same rfl (.same rfl .nil)) | (apply D_int; rfl; rfl; rfl))
    | refine W_seq ?_
    | refine W_region ?_
    | refine WL_nil ?_
    | refine tn ?_
    | refine W_ret ?_
    | (refine idR ?_; refine ret1 rfl rfl rfl ?_)
    | refine Le.bool ?_
  refine dP_eq ?_
  rw [iLe_t]
  refine idxS_ge.trans ⟨fun ⟨s, hs, h⟩ e => by have := e s hs; omega, fun h => ?_⟩
  refine Classical.byContradiction fun h2 => h fun s hs => ?_
  rcases Int.lt_or_le s.f s.t with h3 | h3
  · exact h3
  · exact absurd ⟨s, hs, h3⟩ h2
set_option maxHeartbeats 4000000 in
theorem scheck_pc [GlobF Tryz.prog] (l : List Sp) (hl : l.length < 4611686018427387904) : PC Tryz.prog 91 [sl2 l] (.sc (.int .i64 (if dP (SetP l) then 0 else 30))) := by
  refine PC.of_body Tryz.func91 Tryz.ntmps91 rfl rfl rfl ?_
  repeat' first
    | (apply p1 (hd := rfl); case hop => first | (apply D_move; rfl) | (apply D_assign; rfl) | (apply D_pc (set_pc l hl); rfl; exact .same rfl .nil) | (apply D_not; rfl))
    | refine W_seq ?_
    | refine W_region ?_
    | (refine idC ?_; refine cs rfl (fun _ => ?_) (fun _ => ?_))
    | refine WL_nil ?_
    | refine tn ?_
    | refine tr ?_
    | refine W_skip ?_
    | refine W_ret ?_
    | (refine idR ?_; refine ret1 rfl rfl rfl ?_)
    | refine Le.int ?_
  all_goals simp [dP_t, *]
end Go.Proofs

namespace Go.AL
section
variable {P : Program} [GlobF P] {ty : TypeId} {pos : String} {af : Array Edge} {dst : Option Nat} {gd : Option (Nat × Bool)} {ρ : Operand → Option AV}
theorem D_sc {o : Oper} {v v' : Value} (h : PPOp P o ρ (.sc v)) (e : v = v') : PPOp P o ρ (.sc v') := e ▸ h
end
end Go.AL
