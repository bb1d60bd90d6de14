/- Rules: a range over a function within another one's round. No condition. -/
import Derived.Test.YtnjnjbombcefcaaDoorApp4
set_option linter.all false
namespace Go.AL
section
variable {P : Program} [GlobF P] {fr : Option Nat} {N : Nat} {Q : Exit → AS → Prop} {ops : Array Oper} {rest : List Oper} {rg : List (Nat × AV)} {h : List AObj} {mk : Mk} {ty : TypeId} {pos : String} {af : Array Edge} {d : Nat}
theorem W_rangeX {g : Operand} {ps : Array Tmp} {assign body : Code} {f : FuncId} {ys : List AV} (hg : evR rg g = some (.fn (.func f) [] ys) ∨ (evR rg g = some (.sc (.func (.func f) #[] #[])) ∧ ys = []))
    (hc : ∀ l (X : LoopState → Option Code → AObj),(∀ st pe,X st pe = .loopr l N ps assign body rg st pe) → AC P f (.sc (.func (.yield l) #[] #[]) :: ys) (h ++ [.raw (.deferred (some []))] ++ [X .ready none]) (fun _ h'=>EndR (h.length + 1) l N ps assign body rg ⟨h.length :: mk.l,mk.n0⟩ Q h')) :
    W P none N (.rangeFunc g ps assign body) Q ⟨rg,h,mk⟩:=W_range hg fun l=>hc l (fun st pe=>.loopr l N ps assign body rg st pe) fun _ _=>rfl
theorem W_hq {c : Code} {h' : List AObj} (e : h = h') (hk : W P fr N c Q ⟨rg,h',mk⟩) : W P fr N c Q ⟨rg,h,mk⟩:=e ▸ hk
end
end Go.AL
