/- The plain law of spans: the document's way, by the instants at which something may turn. No condition. -/
import Derived.Test.YtfnmipagllofiaaDoorOps23
import Derived.Test.YtfnmipagllofiaaDoorUEq
import Derived.Test.YtfnmipagllofiaaDoorOps21
import Derived.Test.YtfnmipagllofiaaDoorOps7
import Derived.Test.YtfnmipagllofiaaDoorOps11
import Derived.Lib.MinMax
namespace Go.Proofs
end Go.Proofs

namespace Go.Proofs
open Go.AL Go.Sort
structure WC {α : Type} (c : α → α → Int) : Prop where
  anti : ∀ x y, c x y < 0 ↔ 0 < c y x
  le : ∀ x y z, c x y ≤ 0 → c y z ≤ 0 → c x z ≤ 0
theorem WC.refl {α : Type} {c : α → α → Int} (h : WC c) (x : α) : c x x = 0 := by have := h.anti x x; omega
theorem WC.sym {α : Type} {c : α → α → Int} (h : WC c) {x y : α} (e : c x y = 0) : c y x = 0 := by have h1 := h.anti x y; have h2 := h.anti y x; omega
theorem WC.lt {α : Type} {c : α → α → Int} (h : WC c) {x y z : α} (h1 : c x y ≤ 0) (h2 : c y z ≤ 0) (h3 : c x y < 0 ∨ c y z < 0) : c x z < 0 := by
  have h4 := h.le x y z h1 h2
  rcases Int.lt_or_eq_of_le h4 with h5 | h5
  · exact h5
  · exfalso
    have h6 := h.sym h5
    rcases h3 with h3 | h3
    · have := h.le y z x h2 (by omega)
      have := (h.anti x y).1 h3; omega
    · have := h.le z x y (by omega) h1
      have := (h.anti y z).1 h3; omega
end Go.Proofs

namespace Go.AL
section
variable {P : Program} [GlobF P] {ty : TypeId} {pos : String} {af : Array Edge} {dst : Option Nat} {gd : Option (Nat × Bool)} {ρ : Operand → Option AV}
end
section
variable {P : Program} [GlobF P] {fr : Option Nat} {N : Nat} {Q : Exit → AS → Prop} {ops : Array Oper} {rest : List Oper} {rg : List (Nat × AV)} {h : List AObj} {mk : Mk} {ty : TypeId} {pos : String} {af : Array Edge} {s : AS}
theorem NoAbove.own {B : Base P} {G : Gh} {a : Act} {w : World} {st : AS} (hR : R B N G st a w) {n : Nat} (hn : st.marks.n0 ≤ n) : NoAbove B.g0 n := fun r hr => hR.own r (Nat.le_trans hn hr)
theorem R.cutN {B : Base P} {G : Gh} {a : Act} {w : World} {rg : List (Nat × AV)} {h ex : List AObj} {mk : Mk} (hR : R B N G ⟨rg, h ++ ex, mk⟩ a w) (hn : mk.n0 ≤ h.length) (hb : BdH h) (hg : ∀ t, BdA h.length (look rg t)) (hm : ∀ r, r ∈ mk.l → r < h.length) :
    R B N (cutN G h.length) ⟨rg, h, mk⟩ a w := by
  refine ⟨hR.heap.cutN hb (NoAbove.own hR hn), hR.size, fun t => (hR.regs t).cutN (hg t), ⟨hR.defers.1, fun i d r hd hr => ?_⟩, hR.own⟩
  obtain ⟨b, e1, e2⟩ := hR.defers.2 i d r hd hr
  exact ⟨b, (if_pos (hm r (List.mem_of_getElem? hr))).trans e1, e2⟩
end
end Go.AL

namespace Go.AL
section
variable {P : Program} [GlobF P] {ty : TypeId} {pos : String} {af : Array Edge} {dst : Option Nat} {gd : Option (Nat × Bool)} {ρ : Operand → Option AV}
theorem D_sc {o : Oper} {v v' : Value} (h : PPOp P o ρ (.sc v)) (e : v = v') : PPOp P o ρ (.sc v') := e ▸ h
end
end Go.AL

namespace Go.AL
section
variable {P : Program} [GlobF P] {ty : TypeId} {pos : String} {af : Array Edge} {dst : Option Nat} {gd : Option (Nat × Bool)} {ρ : Operand → Option AV}
theorem D_max {x y : Operand} {k k' : IntKind} {a b : Int} {ts : Array TypeId} (hx : ρ x = some (.sc (.int k a))) (hy : ρ y = some (.sc (.int k' b))) :
    PPOp P { dst := dst, op := .call { callee := .builtin .max, args := #[x, y], argTypes := ts }, type := ty, pos := pos, after := af, guard := gd } ρ (.sc (.int k (max a b))) :=
  PPOp.val (by simp) (fun B G act w hR E => ⟨.int k (max a b), by
    have e1 := conc_sc (E x (by simp [Op.operands, Call.operands]) _ hx)
    have e2 := conc_sc (E y (by simp [Op.operands, Call.operands]) _ hy)
    rw [exec_builtin]
    simp [e1, e2, builtin, Sem.run_bind, Go.Lib.run_max_ints], .sc _⟩)
end
end Go.AL

namespace Go.AL
section
variable {P : Program} [GlobF P] {ty : TypeId} {pos : String} {af : Array Edge} {dst : Option Nat} {gd : Option (Nat × Bool)} {ρ : Operand → Option AV}
end
end Go.AL

namespace Go.AL
end Go.AL
