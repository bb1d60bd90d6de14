/- The rules of the abstract logic, twenty-first part: rows that stand for lists. No condition. -/
import Derived.Test.YtjojdiefnhbglaaOps20
import Derived.Laws.Cover3
namespace Go.AL
section
variable {P : Program} [GlobF P] {ty : TypeId} {pos : String} {af : Array Edge} {dst : Option Nat} {gd : Option (Nat × Bool)} {ρ : Operand → Option AV} {hp : List AObj}
end
section
variable {P : Program} [GlobF P] {fr : Option Nat} {N : Nat} {Q : Exit → AS → Prop} {ops : Array Oper} {rest : List Oper} {rg : List (Nat × AV)} {h : List AObj} {mk : Mk} {ty : TypeId} {pos : String} {af : Array Edge} {d : Nat}
theorem R.frz1 {B : Base P} {G : Gh} {a : Act} {w : World} {t r k n : Nat} {els : List (List AV)} {sp : List AV} (hR : R B N G ⟨rg, h, mk⟩ a w) (hr : h[r]? = some (.cells (els.flatten ++ sp))) (ht : lookO rg t = some (.mr r 0 n)) (hn : n ≤ els.length) (hk : ∀ e, e ∈ els → e.length = k) :
    ∃ G', R B N G' ⟨(t, .sl none k (els.take n)) :: rg, h.set r .dead, mk⟩ a w := by
  classical
  obtain ⟨G', hle, hR'⟩ := hR.freezeF hr (fun x => if x = .mr r 0 n then .sl none k (els.take n) else x) (by rw [if_neg (fun e => by cases e)]) (fun G b c hb hc him v x hv => by
    split
    · rename_i e
      subst e
      have := frzR_ok hk hb hc him hv
      have e1 : frzR r k els (.mr r 0 n) = .sl none k (els.take n) := by
        simp only [frzR]
        have h1 : Nat.beq r r = true := Nat.beq_refl r
        have h2 : Nat.ble n els.length = true := by simpa using hn
        rw [h1, h2]
      rwa [e1] at this
    · exact hv)
  refine ⟨G', hR'.heap, hR'.size, fun u => ?_, hR'.defers, hR'.own⟩
  simp only [look]
  cases hb : Nat.beq t u with
  | true =>
    have e : t = u := Nat.eq_of_beq_eq_true hb
    subst e
    have h1 : Conc G' (a.tmps.getD t undef) (look (rg.map fun p => (p.1, (fun x => if x = .mr r 0 n then .sl none k (els.take n) else x) p.2)) t) := hR'.regs t
    rw [look_map (fun x => if x = .mr r 0 n then AV.sl none k (els.take n) else x) (by rw [if_neg (fun e => by cases e)]), lookO_eq ht, if_pos rfl] at h1
    exact h1
  | false => exact (hR.regs u).mono hle
theorem WL_frz {l : List Oper} (t r k : Nat) {n : Nat} {els : List (List AV)} {sp : List AV} (hr : h[r]? = some (.cells (els.flatten ++ sp))) (ht : lookO rg t = some (.mr r 0 n)) (hn : n ≤ els.length) (hk : ∀ e, e ∈ els → e.length = k)
    (hw : WL P fr N ops l Q ⟨(t, .sl none k (els.take n)) :: rg, h.set r .dead, mk⟩) : WL P fr N ops l Q ⟨rg, h, mk⟩ := by
  intro B G a w hR
  obtain ⟨G', hR'⟩ := hR.frz1 hr ht hn hk
  exact hw B G' a w hR'
end
end Go.AL
