/- Rules of the abstract logic: pointers and interfaces held against nil, pointers through unsafe.Pointer, typed boxes, calls of the library's that have only grown the world. No condition. -/
import Derived.Test.YthofnclbbjemfaaDoorOps11
import Derived.Test.YthofnclbbjemfaaDoorOps7
import Derived.Lib.Builder
set_option linter.all false
namespace Go.AL
section
variable {P : Program} [GlobF P] {ty : TypeId} {pos : String} {af : Array Edge} {dst : Option Nat} {gd : Option (Nat × Bool)} {ρ : Operand → Option AV} {hp : List AObj}
class Lies (P : Program) (T n off te : Nat) : Prop where
  h : liesAt P P.depth T (n / P.cellsOf T) off te 1 = true
class Ifc (P : Program) (t : TypeId) : Prop where
  h : ∃ ms,P.underlying t = some (.interface ms)
end
section
variable {P : Program} [GlobF P]
theorem sc_args {G : Gh} {us vs : List Value} (hc : ConcL G vs (us.map .sc)) : vs = us:=by
  apply List.ext_getElem?
  intro i
  rcases Nat.lt_or_ge i us.length with hi|hi
  · have hi2 : i < vs.length:=by rw [hc.1];simpa using hi
    have:=hc.2 i vs[i] (.sc us[i]) (List.getElem?_eq_getElem hi2) (by simp [hi])
    rw [List.getElem?_eq_getElem hi2,List.getElem?_eq_getElem hi,conc_sc this]
  · rw [List.getElem?_eq_none (by rw [hc.1];simpa using hi),List.getElem?_eq_none hi]
theorem RH.dead {B : Base P} {G : Gh} {h : List AObj} {w : World} (hr : RH B G h w) (r : Nat) : RH B G (h.set r .dead) w:=by
  have key : ∀ {q : Nat} {o : AObj},(h.set r .dead)[q]? = some o → o = .dead ∨ h[q]? = some o:=fun {q o} e=>by
    by_cases hq : q = r
    · subst hq
      by_cases hl : q < h.length
      · rw [List.getElem?_set_self hl] at e;cases e;exact .inl rfl
      · rw [List.getElem?_eq_none (by simpa using hl)] at e;cases e
    · rw [List.getElem?_set_ne (Ne.symm hq)] at e;exact .inr e
  refine ⟨hr.base,hr.tape,hr.os,hr.output,hr.drawn,hr.size,hr.out,hr.imm,hr.low,fun q o e=>?_,fun q q' o o' b h1 h2 h3 h4=>?_,fun q hq=>hr.fresh q (by simpa using hq)⟩
  · rcases key e with rfl|e
    · trivial
    · exact hr.obj q o e
  · rcases key h1 with rfl|h1
    · cases h3
    · rcases key h2 with rfl|h2
      · cases h4
      · exact hr.inj q q' o o' b h1 h2 h3 h4
end
section
variable {P : Program} [GlobF P] {fr : Option Nat} {N : Nat} {Q : Exit → AS → Prop} {ops : Array Oper} {rest : List Oper} {rg : List (Nat × AV)} {h : List AObj} {mk : Mk} {ty : TypeId} {pos : String} {af : Array Edge} {d : Nat}
end
end Go.AL
