/- The rules of the abstract logic, twentieth part: slices copied, cleared. No condition. -/
import Derived.Test.YtjojdiefnhbglaaOps11
import Derived.LoopNIn
namespace Go.AL
section
variable {P : Program} [GlobF P] {fr : Option Nat} {N : Nat} {Q : Exit → AS → Prop} {ops : Array Oper} {rest : List Oper} {rg : List (Nat × AV)} {h : List AObj} {mk : Mk} {ty : TypeId} {pos : String} {af : Array Edge} {d : Nat}
theorem dead_keep {h : List AObj} {r q : Nat} {x o : AObj} (hr : r < h.length) (hx : (h.set r .dead ++ [o])[q]? = some x) : (q = r ∧ x = .dead) ∨ (q ≠ r ∧ h[q]? = some x) ∨ (q = h.length ∧ x = o) := by
  rcases Nat.lt_or_ge q h.length with hq | hq
  · rw [List.getElem?_append_left (by simpa using hq)] at hx
    by_cases e : q = r
    · subst e; rw [List.getElem?_set_self hr] at hx; exact .inl ⟨rfl, (Option.some.inj hx).symm⟩
    · rw [List.getElem?_set_ne (Ne.symm e)] at hx; exact .inr (.inl ⟨e, hx⟩)
  · rw [List.getElem?_append_right (by simpa using hq)] at hx
    have hlt := (List.getElem?_eq_some_iff.1 hx).1
    have e : q = h.length := by simp at hlt; omega
    subst e
    simp at hx
    exact .inr (.inr ⟨rfl, hx.symm⟩)
end
section
variable {P : Program} [GlobF P] {ty : TypeId} {pos : String} {af : Array Edge} {gd : Option (Nat × Bool)} {ρ : Operand → Option AV} {h : List AObj}
end
section
variable {P : Program} [GlobF P] {fr : Option Nat} {N : Nat}
end
section
variable {P : Program} [GlobF P] {ty : TypeId} {pos : String} {af : Array Edge} {dst : Option Nat} {gd : Option (Nat × Bool)} {ρ : Operand → Option AV}
end
end Go.AL

namespace Go.AL
section
variable {P : Program} [GlobF P] {ty : TypeId} {pos : String} {af : Array Edge} {dst : Option Nat} {gd : Option (Nat × Bool)} {ρ : Operand → Option AV}
def Wkn (x y : AV) : Prop := ∀ (G : Gh) (v : Value), Conc G v x → Conc G v y
theorem Wkn.refl (x : AV) : Wkn x x := fun _ _ h => h
theorem Wkn.nil {k : Nat} : Wkn (.sc (.slice none 0 0)) (.sl none k []) := fun _ v hv => by cases hv; exact .slnil (fun t e => by cases e)
def WknL : List AV → List AV → Prop
  | [], [] => True
  | x :: xs, y :: ys => Wkn x y ∧ WknL xs ys
  | _, _ => False
theorem WknL.conc {G : Gh} : ∀ {xs ys : List AV} {vs : List Value}, WknL xs ys → ConcL G vs xs → ConcL G vs ys
  | [], [], _, _, h => h
  | x :: xs, y :: ys, vs, ⟨h1, h2⟩, h => by
    obtain ⟨v, vs', rfl, g1, g2⟩ := h.inv_cons
    exact .cons (h1 _ _ g1) (h2.conc g2)
  | [], _ :: _, _, h, _ => h.elim
  | _ :: _, [], _, h, _ => h.elim
theorem Wkn.ag {xs ys : List AV} (h : WknL xs ys) : Wkn (.ag xs) (.ag ys) := fun G v hv => by
  cases hv with
  | ag l hh =>
    have := h.conc ⟨l, hh⟩
    exact .ag this.1 this.2
theorem Le.ag {xs ys : List AV} (h : LeL xs ys) : Le (.ag xs) (.ag ys) := fun G v hv => by
  cases hv with
  | ag l hh =>
    have := h.conc ⟨l, hh⟩
    exact .ag this.1 this.2
end
end Go.AL

namespace Go.AL
section
variable {P : Program} [GlobF P] {ty : TypeId} {pos : String} {af : Array Edge} {dst : Option Nat} {gd : Option (Nat × Bool)} {ρ : Operand → Option AV}
theorem D_sc {o : Oper} {v v' : Value} (h : PPOp P o ρ (.sc v)) (e : v = v') : PPOp P o ρ (.sc v') := e ▸ h
end
end Go.AL
