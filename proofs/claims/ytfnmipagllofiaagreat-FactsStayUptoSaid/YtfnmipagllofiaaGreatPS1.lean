/- The plain law of sorting: weak orders; what is sorted, each once, is told by what is in it. No program in sight. -/
import Derived.Test.YtfnmipagllofiaaGreatOps12
namespace Go.Proofs
open Go.AL Go.Sort

/-- How two stand, soundly. -/
structure WC {α : Type} (c : α → α → Int) : Prop where
  anti : ∀ x y, c x y < 0 ↔ 0 < c y x
  le : ∀ x y z, c x y ≤ 0 → c y z ≤ 0 → c x z ≤ 0
theorem WC.refl {α : Type} {c : α → α → Int} (h : WC c) (x : α) : c x x = 0 := by have := h.anti x x; omega
theorem WC.sym {α : Type} {c : α → α → Int} (h : WC c) {x y : α} (e : c x y = 0) : c y x = 0 := by have h1 := h.anti x y; have h2 := h.anti y x; omega
theorem WC.lt {α : Type} {c : α → α → Int} (h : WC c) {x y z : α} (h1 : c x y ≤ 0) (h2 : c y z ≤ 0) (h3 : c x y < 0 ∨ c y z < 0) : c x z < 0 := by
  have h4 := h.le x y z h1 h2
  rcases Int.lt_or_eq_of_le h4 with h5 | h5
  · exact h5
  · exfalso
    have h6 := h.sym h5
    rcases h3 with h3 | h3
    · have := h.le y z x h2 (by omega)
      have := (h.anti x y).1 h3; omega
    · have := h.le z x y (by omega) h1
      have := (h.anti y z).1 h3; omega
theorem WC.comap {α β : Type} {c : α → α → Int} (h : WC c) (f : β → α) : WC (fun x y => c (f x) (f y)) := ⟨fun _ _ => h.anti _ _, fun _ _ _ => h.le _ _ _⟩
theorem WC.lex {α : Type} {c d : α → α → Int} (h : WC c) (h' : WC d) : WC (fun x y => if c x y = 0 then d x y else c x y) := by
  refine ⟨fun x y => ?_, fun x y z h1 h2 => ?_⟩
  · have a1 := h.anti x y
    have a2 := h.anti y x
    have b1 := h'.anti x y
    by_cases e : c x y = 0
    · rw [if_pos e, if_pos (h.sym e)]; exact b1
    · rw [if_neg e, if_neg (fun e' => e (h.sym e'))]; exact a1
  · by_cases e1 : c x y = 0
    · rw [if_pos e1] at h1
      by_cases e2 : c y z = 0
      · rw [if_pos e2] at h2
        have e3 : c x z = 0 := by
          have l1 := h.le x y z (by omega) (by omega)
          have l2 := h.le z y x (by have := h.sym e2; omega) (by have := h.sym e1; omega)
          have := h.anti x z
          omega
        rw [if_pos e3]; exact h'.le x y z h1 h2
      · rw [if_neg e2] at h2
        have := h.lt (x := x) (y := y) (z := z) (by omega) h2 (.inr (by omega))
        rw [if_neg (by omega)]; omega
    · rw [if_neg e1] at h1
      have h3 : c y z ≤ 0 := by
        by_cases e2 : c y z = 0
        · omega
        · rw [if_neg e2] at h2; exact h2
      have := h.lt (x := x) (y := y) (z := z) h1 h3 (.inl (by omega))
      rw [if_neg (by omega)]; omega
theorem WC.swo {α : Type} {c : α → α → Int} (h : WC c) : SWO (ltOf c) := by
  have e : ∀ x y, ltOf c x y = true ↔ c x y < 0 := fun x y => by simp [ltOf]
  have e' : ∀ x y, ltOf c x y = false ↔ ¬ c x y < 0 := fun x y => by simp [ltOf]
  refine ⟨fun x => ?_, fun x y z h1 h2 => ?_, fun x y z h1 h2 => ?_⟩
  · rw [e', h.refl]; omega
  · rw [e] at *
    exact h.lt (by omega) (by omega) (.inl h1)
  · rw [e'] at *
    have a1 := h.anti x y
    have a2 := h.anti y x
    have a3 := h.anti y z
    have a4 := h.anti z y
    have a5 := h.anti x z
    have := h.le z y x (by omega) (by omega)
    omega
theorem ltOf_tot {α : Type} {c : α → α → Int} (h : WC c) (hz : ∀ x y, c x y = 0 → x = y) : ∀ x y, ltOf c x y = false → ltOf c y x = false → x = y := fun x y h1 h2 => by
  have e' : ∀ x y, ltOf c x y = false ↔ ¬ c x y < 0 := fun x y => by simp [ltOf]
  rw [e'] at h1 h2
  have := h.anti y x
  exact hz x y (by omega)

def Rise {α : Type} (c : α → α → Int) (l : List α) : Prop := l.Pairwise fun x y => c x y < 0
theorem rise_eq {α : Type} {c : α → α → Int} (h : WC c) : ∀ {a b : List α}, Rise c a → Rise c b → (∀ x, x ∈ a ↔ x ∈ b) → a = b
  | [], [], _, _, _ => rfl
  | [], y :: b, _, _, hm => by have := (hm y).2 (.head _); cases this
  | x :: a, [], _, _, hm => by have := (hm x).1 (.head _); cases this
  | x :: a, y :: b, ha, hb, hm => by
    unfold Rise at ha hb
    rw [List.pairwise_cons] at ha hb
    have e : x = y := by
      have h1 := (hm x).1 (.head _)
      have h2 := (hm y).2 (.head _)
      simp only [List.mem_cons] at h1 h2
      rcases h1 with h1 | h1
      · exact h1
      · rcases h2 with h2 | h2
        · exact h2.symm
        · have l1 := ha.1 y h2
          have l2 := hb.1 x h1
          have := (h.anti x y).1 l1
          omega
    subst e
    congr 1
    refine rise_eq h ha.2 hb.2 fun z => ?_
    have hz := hm z
    simp only [List.mem_cons] at hz
    constructor
    · intro hz'
      rcases hz.1 (.inr hz') with e | e
      · subst e; have := ha.1 z hz'; rw [h.refl] at this; omega
      · exact e
    · intro hz'
      rcases hz.2 (.inr hz') with e | e
      · subst e; have := hb.1 z hz'; rw [h.refl] at this; omega
      · exact e

open Classical in
noncomputable def compL {α : Type} : List α → List α
  | [] => []
  | [x] => [x]
  | x :: y :: t => if x = y then compL (y :: t) else x :: compL (y :: t)
open Classical in
theorem compL_snoc {α : Type} : ∀ (t : List α) (y x : α), compL (t ++ [y] ++ [x]) = compL (t ++ [y]) ++ (if y = x then [] else [x])
  | [], y, x => by
    simp only [List.nil_append, List.cons_append, compL]
    by_cases h : y = x
    · simp [h]
    · simp [h]
  | [z], y, x => by
    simp only [List.nil_append, List.cons_append, compL]
    by_cases h : y = x <;> by_cases h' : z = y <;> simp [h, h']
  | z :: w :: t, y, x => by
    have ih := compL_snoc (w :: t) y x
    simp only [List.cons_append] at ih ⊢
    simp only [compL]
    rw [ih]
    split <;> simp
theorem compL_mem {α : Type} : ∀ (l : List α) (x : α), x ∈ compL l ↔ x ∈ l
  | [], x => by simp [compL]
  | [y], x => by simp [compL]
  | y :: z :: t, x => by
    have ih := compL_mem (z :: t) x
    simp only [compL]
    split
    · rename_i h; subst h; rw [ih]; simp
    · rw [List.mem_cons, ih, List.mem_cons (a := x) (b := y)]
theorem compL_rise {α : Type} {c : α → α → Int} (h : WC c) (hz : ∀ x y, c x y = 0 → x = y) : ∀ {l : List α}, l.Pairwise (fun x y => c x y ≤ 0) → Rise c (compL l)
  | [], _ => List.Pairwise.nil
  | [x], _ => List.pairwise_singleton _ _
  | x :: y :: t, hp => by
    rw [List.pairwise_cons] at hp
    have ih := compL_rise h hz hp.2
    simp only [compL]
    split
    · exact ih
    · rename_i hne
      refine List.pairwise_cons.2 ⟨fun z hzm => ?_, ih⟩
      have hzm' := (compL_mem (y :: t) z).1 hzm
      have hxy : c x y < 0 := by
        have := hp.1 y (.head _)
        rcases Int.lt_or_eq_of_le this with h5 | h5
        · exact h5
        · exact absurd (hz x y h5) hne
      simp only [List.mem_cons] at hzm'
      rcases hzm' with e | e
      · subst e; exact hxy
      · exact h.lt (by omega) ((List.pairwise_cons.1 hp.2).1 z e) (.inl hxy)

open Classical in
theorem compL_take {α : Type} (l : List α) (m : Nat) (h : m + 1 < l.length) : compL (l.take (m + 2)) = compL (l.take (m + 1)) ++ (if l[m] = l[m + 1] then [] else [l[m + 1]]) := by
  have e1 : l.take (m + 1) = l.take m ++ [l[m]] := List.take_succ_eq_append_getElem (by omega)
  have e2 : l.take (m + 2) = l.take m ++ [l[m]] ++ [l[m + 1]] := by rw [List.take_succ_eq_append_getElem h, e1]
  rw [e2, e1, compL_snoc]
/-- Sorted, each once. -/
noncomputable def sortC {α : Type} (c : α → α → Int) (l : List α) : List α := compL (l.mergeSort fun x y => !(ltOf c y x))
theorem sortC_mem {α : Type} (c : α → α → Int) (l : List α) (x : α) : x ∈ sortC c l ↔ x ∈ l := by
  unfold sortC; rw [compL_mem, List.mem_mergeSort]
theorem sortC_rise {α : Type} {c : α → α → Int} (h : WC c) (hz : ∀ x y, c x y = 0 → x = y) (l : List α) : Rise c (sortC c l) := by
  refine compL_rise h hz ?_
  have e : ∀ x y, (!(ltOf c y x)) = true ↔ c x y ≤ 0 := fun x y => by
    have := h.anti y x
    have := h.anti x y
    simp [ltOf]; omega
  have := List.pairwise_mergeSort (le := fun x y => !(ltOf c y x)) (fun a b d h1 h2 => by rw [e] at *; exact h.le _ _ _ h1 h2) (fun a b => by
    have := h.anti a b
    have := h.anti b a
    rw [Bool.or_eq_true, e, e]; omega) l
  exact this.imp fun {a b} hab => (e a b).1 hab
theorem compL_len {α : Type} : ∀ (l : List α), (compL l).length ≤ l.length
  | [] => by simp [compL]
  | [x] => by simp [compL]
  | x :: y :: t => by
    have := compL_len (y :: t)
    simp only [compL]; split <;> simp at * <;> omega
theorem sortC_len {α : Type} (c : α → α → Int) (l : List α) : (sortC c l).length ≤ l.length := by
  have := compL_len (l.mergeSort fun x y => !(ltOf c y x))
  rw [List.length_mergeSort] at this; exact this
/-- What rises, and has the same in it, is that. -/
theorem sortC_eq {α : Type} {c : α → α → Int} (h : WC c) (hz : ∀ x y, c x y = 0 → x = y) {l m : List α} (hr : Rise c m) (hm : ∀ x, x ∈ m ↔ x ∈ l) : m = sortC c l :=
  rise_eq h hr (sortC_rise h hz l) fun x => by rw [hm, sortC_mem]

end Go.Proofs
