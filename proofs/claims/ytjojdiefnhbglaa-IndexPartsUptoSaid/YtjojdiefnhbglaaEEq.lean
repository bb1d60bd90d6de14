/- The facts on equality of structs, as instances. No condition. -/
import Derived.Test.YtjojdiefnhbglaaOps7
import Derived.Test.YtjojdiefnhbglaaEInst
import Derived.Test.YtjojdiefnhbglaaBase
import Derived.Test.YtjojdiefnhbglaaOps12
namespace Go.Proofs
open Go.AL
instance : EqF Try.prog 2 [.i .i64] 1 := eqf_int Try.underlying2 Try.isAgg2
instance : EqF Try.prog 3 [.i .i64] 1 := eqf_int Try.underlying3 Try.isAgg3
instance : EqF Try.prog 4 [.b] 1 := eqf_bool Try.underlying4 Try.isAgg4
instance : EqF Try.prog 5 [.i .u8] 1 := eqf_int Try.underlying5 Try.isAgg5
instance : EqF Try.prog 6 [.i .u8] 1 := eqf_int Try.underlying6 Try.isAgg6
instance : EqF Try.prog 9 [.s] 1 := eqf_str Try.underlying9 Try.isAgg9
instance : EqF Try.prog 10 [.s] 1 := eqf_str Try.underlying10 Try.isAgg10
instance : EqF Try.prog 11 [.s] 1 := eqf_str Try.underlying11 Try.isAgg11
instance : EqF Try.prog 12 [.i .u64] 1 := eqf_int Try.underlying12 Try.isAgg12
instance : EqF Try.prog 21 [.i .i32] 1 := eqf_int Try.underlying21 Try.isAgg21
instance : EqF Try.prog 26 [.i .i64] 1 := eqf_int Try.underlying26 Try.isAgg26
instance : EqF Try.prog 34 [.i .i64, .i .i64, .s] 2 := eqf_struct Try.underlying34 (by kernel_rfl) Try.isAgg34 Try.sizeOf34 rfl (by repeat first | exact FldEq.nil _ | refine FldEq.cons3 (by decide) rfl (by decide) (by rfl) ?_)
instance : EqG Try.prog 34 := ⟨by kernel_rfl⟩
instance : EqF Try.prog 36 [.i .i64, .i .i64, .i .i64, .i .i64, .s, .i .i64, .b, .i .i64, .i .i64] 3 := eqf_struct Try.underlying36 (by kernel_rfl) Try.isAgg36 Try.sizeOf36 rfl (by repeat first | exact FldEq.nil _ | refine FldEq.cons3 (by decide) rfl (by decide) (by rfl) ?_)
instance : EqG Try.prog 36 := ⟨by kernel_rfl⟩
instance : EqF Try.prog 53 [.i .i64, .i .i64] 2 := eqf_struct Try.underlying53 (by kernel_rfl) Try.isAgg53 Try.sizeOf53 rfl (by repeat first | exact FldEq.nil _ | refine FldEq.cons3 (by decide) rfl (by decide) (by rfl) ?_)
instance : EqG Try.prog 53 := ⟨by kernel_rfl⟩
instance : EqF Try.prog 54 [.i .i64, .i .i64] 2 := eqf_struct Try.underlying54 (by kernel_rfl) Try.isAgg54 Try.sizeOf54 rfl (by repeat first | exact FldEq.nil _ | refine FldEq.cons3 (by decide) rfl (by decide) (by rfl) ?_)
instance : EqG Try.prog 54 := ⟨by kernel_rfl⟩
instance : EqF Try.prog 73 [.i .i64, .i .i64, .i .i64] 2 := eqf_struct Try.underlying73 (by kernel_rfl) Try.isAgg73 Try.sizeOf73 rfl (by repeat first | exact FldEq.nil _ | refine FldEq.cons3 (by decide) rfl (by decide) (by rfl) ?_)
instance : EqG Try.prog 73 := ⟨by kernel_rfl⟩
instance : EqF Try.prog 74 [.i .i64, .i .i64, .i .i64] 2 := eqf_struct Try.underlying74 (by kernel_rfl) Try.isAgg74 Try.sizeOf74 rfl (by repeat first | exact FldEq.nil _ | refine FldEq.cons3 (by decide) rfl (by decide) (by rfl) ?_)
instance : EqG Try.prog 74 := ⟨by kernel_rfl⟩
instance : EqF Try.prog 79 [.b, .i .i64, .i .i64, .i .i64, .s] 3 := eqf_struct Try.underlying79 (by kernel_rfl) Try.isAgg79 Try.sizeOf79 rfl (by repeat first | exact FldEq.nil _ | refine FldEq.cons3 (by decide) rfl (by decide) (by rfl) ?_)
instance : EqG Try.prog 79 := ⟨by kernel_rfl⟩
instance : EqF Try.prog 82 [.i .i64, .i .i64, .i .i64, .b, .b] 2 := eqf_struct Try.underlying82 (by kernel_rfl) Try.isAgg82 Try.sizeOf82 rfl (by repeat first | exact FldEq.nil _ | refine FldEq.cons3 (by decide) rfl (by decide) (by rfl) ?_)
instance : EqG Try.prog 82 := ⟨by kernel_rfl⟩
instance : EqF Try.prog 114 [.i .i64, .i .i64] 2 := eqf_struct Try.underlying114 (by kernel_rfl) Try.isAgg114 Try.sizeOf114 rfl (by repeat first | exact FldEq.nil _ | refine FldEq.cons3 (by decide) rfl (by decide) (by rfl) ?_)
instance : EqG Try.prog 114 := ⟨by kernel_rfl⟩
instance : EqF Try.prog 161 [.i .u64] 1 := eqf_int Try.underlying161 Try.isAgg161
instance : EqF Try.prog 192 [.i .i64] 1 := eqf_int Try.underlying192 Try.isAgg192
instance : EqF Try.prog 199 [.i .u32] 1 := eqf_int Try.underlying199 Try.isAgg199
instance : EqF Try.prog 201 [.i .u64] 1 := eqf_int Try.underlying201 Try.isAgg201
instance : EqF Try.prog 218 [.i .u64] 1 := eqf_int Try.underlying218 Try.isAgg218
instance : EqF Try.prog 247 [.i .u8] 1 := eqf_int Try.underlying247 Try.isAgg247
instance : EqF Try.prog 248 [.i .u8] 1 := eqf_int Try.underlying248 Try.isAgg248
instance : EqF Try.prog 251 [.i .i32] 1 := eqf_int Try.underlying251 Try.isAgg251
instance : EqF Try.prog 252 [.i .i32] 1 := eqf_int Try.underlying252 Try.isAgg252
end Go.Proofs

namespace Go.Proofs
structure Sp where
  f : Int
  t : Int
theorem Sp.ext' {a b : Sp} (h1 : a.f = b.f) (h2 : a.t = b.t) : a = b := by
  obtain ⟨a, b⟩ := a; simp only at h1 h2; subst h1; subst h2; rfl
def neS (l : List Sp) : Prop := ∀ s, s ∈ l → s.f < s.t
def SetP (l : List Sp) : Prop := neS l ∧ l.Pairwise (fun a b => a.t < b.f)
theorem SetP.nil : SetP [] := ⟨fun _ h => by simp at h, List.Pairwise.nil⟩
def jn (out : List Sp) (s : Sp) : List Sp :=
  match out.getLast? with
  | none => out ++ [s]
  | some p => if s.f ≤ p.t then out.dropLast ++ [⟨p.f, max p.t s.t⟩] else out ++ [s]
abbrev loT : Int := -9223372036854775808
abbrev hiT : Int := 9223372036854775807
end Go.Proofs

namespace Go.Proofs
end Go.Proofs

namespace Go.Proofs
open Go.AL Go.Sort
structure WC {α : Type} (c : α → α → Int) : Prop where
  anti : ∀ x y, c x y < 0 ↔ 0 < c y x
  le : ∀ x y z, c x y ≤ 0 → c y z ≤ 0 → c x z ≤ 0
theorem WC.refl {α : Type} {c : α → α → Int} (h : WC c) (x : α) : c x x = 0 := by have := h.anti x x; omega
theorem WC.sym {α : Type} {c : α → α → Int} (h : WC c) {x y : α} (e : c x y = 0) : c y x = 0 := by have h1 := h.anti x y; have h2 := h.anti y x; omega
theorem WC.lt {α : Type} {c : α → α → Int} (h : WC c) {x y z : α} (h1 : c x y ≤ 0) (h2 : c y z ≤ 0) (h3 : c x y < 0 ∨ c y z < 0) : c x z < 0 := by
  have h4 := h.le x y z h1 h2
  rcases Int.lt_or_eq_of_le h4 with h5 | h5
  · exact h5
  · exfalso
    have h6 := h.sym h5
    rcases h3 with h3 | h3
    · have := h.le y z x h2 (by omega)
      have := (h.anti x y).1 h3; omega
    · have := h.le z x y (by omega) h1
      have := (h.anti y z).1 h3; omega
theorem WC.comap {α β : Type} {c : α → α → Int} (h : WC c) (f : β → α) : WC (fun x y => c (f x) (f y)) := ⟨fun _ _ => h.anti _ _, fun _ _ _ => h.le _ _ _⟩
theorem WC.lex {α : Type} {c d : α → α → Int} (h : WC c) (h' : WC d) : WC (fun x y => if c x y = 0 then d x y else c x y) := by
  refine ⟨fun x y => ?_, fun x y z h1 h2 => ?_⟩
  · have a1 := h.anti x y
    have a2 := h.anti y x
    have b1 := h'.anti x y
    by_cases e : c x y = 0
    · rw [if_pos e, if_pos (h.sym e)]; exact b1
    · rw [if_neg e, if_neg (fun e' => e (h.sym e'))]; exact a1
  · by_cases e1 : c x y = 0
    · rw [if_pos e1] at h1
      by_cases e2 : c y z = 0
      · rw [if_pos e2] at h2
        have e3 : c x z = 0 := by
          have l1 := h.le x y z (by omega) (by omega)
          have l2 := h.le z y x (by have := h.sym e2; omega) (by have := h.sym e1; omega)
          have := h.anti x z
          omega
        rw [if_pos e3]; exact h'.le x y z h1 h2
      · rw [if_neg e2] at h2
        have := h.lt (x := x) (y := y) (z := z) (by omega) h2 (.inr (by omega))
        rw [if_neg (by omega)]; omega
    · rw [if_neg e1] at h1
      have h3 : c y z ≤ 0 := by
        by_cases e2 : c y z = 0
        · omega
        · rw [if_neg e2] at h2; exact h2
      have := h.lt (x := x) (y := y) (z := z) h1 h3 (.inl (by omega))
      rw [if_neg (by omega)]; omega
def Rise {α : Type} (c : α → α → Int) (l : List α) : Prop := l.Pairwise fun x y => c x y < 0
theorem rise_eq {α : Type} {c : α → α → Int} (h : WC c) : ∀ {a b : List α}, Rise c a → Rise c b → (∀ x, x ∈ a ↔ x ∈ b) → a = b
  | [], [], _, _, _ => rfl
  | [], y :: b, _, _, hm => by have := (hm y).2 (.head _); cases this
  | x :: a, [], _, _, hm => by have := (hm x).1 (.head _); cases this
  | x :: a, y :: b, ha, hb, hm => by
    unfold Rise at ha hb
    rw [List.pairwise_cons] at ha hb
    have e : x = y := by
      have h1 := (hm x).1 (.head _)
      have h2 := (hm y).2 (.head _)
      simp only [List.mem_cons] at h1 h2
      rcases h1 with h1 | h1
      · exact h1
      · rcases h2 with h2 | h2
        · exact h2.symm
        · have l1 := ha.1 y h2
          have l2 := hb.1 x h1
          have := (h.anti x y).1 l1
          omega
    subst e
    congr 1
    refine rise_eq h ha.2 hb.2 fun z => ?_
    have hz := hm z
    simp only [List.mem_cons] at hz
    constructor
    · intro hz'
      rcases hz.1 (.inr hz') with e | e
      · subst e; have := ha.1 z hz'; rw [h.refl] at this; omega
      · exact e
    · intro hz'
      rcases hz.2 (.inr hz') with e | e
      · subst e; have := hb.1 z hz'; rw [h.refl] at this; omega
      · exact e
open Classical in
noncomputable def compL {α : Type} : List α → List α
  | [] => []
  | [x] => [x]
  | x :: y :: t => if x = y then compL (y :: t) else x :: compL (y :: t)
theorem compL_mem {α : Type} : ∀ (l : List α) (x : α), x ∈ compL l ↔ x ∈ l
  | [], x => by simp [compL]
  | [y], x => by simp [compL]
  | y :: z :: t, x => by
    have ih := compL_mem (z :: t) x
    simp only [compL]
    split
    · rename_i h; subst h; rw [ih]; simp
    · rw [List.mem_cons, ih, List.mem_cons (a := x) (b := y)]
theorem compL_rise {α : Type} {c : α → α → Int} (h : WC c) (hz : ∀ x y, c x y = 0 → x = y) : ∀ {l : List α}, l.Pairwise (fun x y => c x y ≤ 0) → Rise c (compL l)
  | [], _ => List.Pairwise.nil
  | [x], _ => List.pairwise_singleton _ _
  | x :: y :: t, hp => by
    rw [List.pairwise_cons] at hp
    have ih := compL_rise h hz hp.2
    simp only [compL]
    split
    · exact ih
    · rename_i hne
      refine List.pairwise_cons.2 ⟨fun z hzm => ?_, ih⟩
      have hzm' := (compL_mem (y :: t) z).1 hzm
      have hxy : c x y < 0 := by
        have := hp.1 y (.head _)
        rcases Int.lt_or_eq_of_le this with h5 | h5
        · exact h5
        · exact absurd (hz x y h5) hne
      simp only [List.mem_cons] at hzm'
      rcases hzm' with e | e
      · subst e; exact hxy
      · exact h.lt (by omega) ((List.pairwise_cons.1 hp.2).1 z e) (.inl hxy)
noncomputable def sortC {α : Type} (c : α → α → Int) (l : List α) : List α := compL (l.mergeSort fun x y => !(ltOf c y x))
theorem sortC_mem {α : Type} (c : α → α → Int) (l : List α) (x : α) : x ∈ sortC c l ↔ x ∈ l := by
  unfold sortC; rw [compL_mem, List.mem_mergeSort]
theorem sortC_rise {α : Type} {c : α → α → Int} (h : WC c) (hz : ∀ x y, c x y = 0 → x = y) (l : List α) : Rise c (sortC c l) := by
  refine compL_rise h hz ?_
  have e : ∀ x y, (!(ltOf c y x)) = true ↔ c x y ≤ 0 := fun x y => by
    have := h.anti y x
    have := h.anti x y
    simp [ltOf]; omega
  have := List.pairwise_mergeSort (le := fun x y => !(ltOf c y x)) (fun a b d h1 h2 => by rw [e] at *; exact h.le _ _ _ h1 h2) (fun a b => by
    have := h.anti a b
    have := h.anti b a
    rw [Bool.or_eq_true, e, e]; omega) l
  exact this.imp fun {a b} hab => (e a b).1 hab
theorem compL_len {α : Type} : ∀ (l : List α), (compL l).length ≤ l.length
  | [] => by simp [compL]
  | [x] => by simp [compL]
  | x :: y :: t => by
    have := compL_len (y :: t)
    simp only [compL]; split <;> simp at * <;> omega
theorem sortC_len {α : Type} (c : α → α → Int) (l : List α) : (sortC c l).length ≤ l.length := by
  have := compL_len (l.mergeSort fun x y => !(ltOf c y x))
  rw [List.length_mergeSort] at this; exact this
theorem sortC_eq {α : Type} {c : α → α → Int} (h : WC c) (hz : ∀ x y, c x y = 0 → x = y) {l m : List α} (hr : Rise c m) (hm : ∀ x, x ∈ m ↔ x ∈ l) : m = sortC c l :=
  rise_eq h hr (sortC_rise h hz l) fun x => by rw [hm, sortC_mem]
def insC {α : Type} (c : α → α → Int) (x : α) : List α → List α
  | [] => [x]
  | y :: t => if c y x < 0 then y :: insC c x t else if c y x = 0 then y :: t else x :: y :: t
theorem insC_mem {α : Type} {c : α → α → Int} (hz : ∀ x y, c x y = 0 → x = y) (x : α) : ∀ (l : List α) (z : α), z ∈ insC c x l ↔ z = x ∨ z ∈ l
  | [], z => by simp [insC]
  | y :: t, z => by
    have ih := insC_mem hz x t z
    simp only [insC]
    split
    · rw [List.mem_cons, ih, List.mem_cons]
      constructor
      · rintro (h | h | h)
        · exact .inr (.inl h)
        · exact .inl h
        · exact .inr (.inr h)
      · rintro (h | h | h)
        · exact .inr (.inl h)
        · exact .inl h
        · exact .inr (.inr h)
    · split
      · rename_i h; have := hz y x h; subst this; simp
      · simp
theorem insC_rise {α : Type} {c : α → α → Int} (h : WC c) (hz : ∀ x y, c x y = 0 → x = y) (x : α) : ∀ {l : List α}, Rise c l → Rise c (insC c x l)
  | [], _ => List.pairwise_singleton _ _
  | y :: t, hr => by
    unfold Rise at *
    have hr' := List.pairwise_cons.1 hr
    simp only [insC]
    split
    · rename_i hlt
      refine List.pairwise_cons.2 ⟨fun z hzm => ?_, insC_rise h hz x hr'.2⟩
      rcases (insC_mem hz x t z).1 hzm with e | e
      · subst e; exact hlt
      · exact hr'.1 z e
    · rename_i h1
      split
      · exact hr
      · rename_i h2
        have hxy : c x y < 0 := (h.anti x y).2 (by omega)
        refine List.pairwise_cons.2 ⟨fun z hzm => ?_, hr⟩
        simp only [List.mem_cons] at hzm
        rcases hzm with e | e
        · subst e; exact hxy
        · have := hr'.1 z e
          exact h.lt (by omega) (by omega) (.inl hxy)
end Go.Proofs
