/- The rules of the abstract logic, seventh part: pieces of strings; three results. No condition. -/
import Derived.Test.YtfnmipagllofiaaGreatMem
import Derived.Laws.Strings2
namespace Go.AL
section
variable {P : Program} [GlobF P] {ty : TypeId} {pos : String} {af : Array Edge} {dst : Option Nat} {gd : Option (Nat × Bool)} {ρ : Operand → Option AV} {hp : List AObj}
end
section
variable {P : Program} [GlobF P]
end
end Go.AL

namespace Go.AL
section
variable {P : Program} [GlobF P] {fr : Option Nat} {N : Nat} {Q : Exit → AS → Prop} {ops : Array Oper} {rest : List Oper} {rg : List (Nat × AV)} {h : List AObj} {mk : Mk} {ty ty' : TypeId} {pos pos' : String} {af af' : Array Edge} {d : Nat}
theorem setRow_push (w : World) (z c : Array Value) (t : TypeId) : (w.alloc (.cells z t)).setRow w.heap.size c = { w with heap := w.heap.push (.cells c t (0, 0)), drawn := w.drawn + 0 } := by
  unfold World.setRow World.alloc
  simp only [Nat.add_zero]
  congr 1
  apply Array.ext
  · simp
  · intro i h1 h2
    simp only [Array.getElem_modify]
    by_cases e : w.heap.size = i
    · subst e; simp
    · have : i < w.heap.size := by simp at h2; omega
      simp [e, Array.getElem_push_lt this]
theorem m_var {t : TypeId} {e k : Nat} {z : Value} {u : AV} {cs : List AV} [hz : Zer P t z] [hs : Siz P t k] (hd : Nat.blt d N = true) (he : Nat.beq d e = false) (hy : lookO rg e = some u) (hu : cellsO u = some cs)
    (hk : Nat.beq cs.length k = true) (hzk : Nat.beq z.cells.size k = true) (hone : cs.all AV.one = true)
    (hw : WL P fr N ops rest Q ⟨(d, .ep cs) :: rg, h, mk⟩) :
    WL P fr N ops ({ dst := some d, op := .alloc t, type := ty, pos := pos, after := af, guard := none } :: { dst := none, op := .store t (.tmp d) (.tmp e), type := ty', pos := pos', after := af', guard := none } :: rest) Q ⟨rg, h, mk⟩ := by
  intro B G a w hR
  have ey : Conc G (a.tmps.getD e undef) u := by
    have := hR.regs e
    rwa [show look rg e = u from lookO_eq hy] at this
  have hdN : d < N := by simpa [Nat.blt_eq] using hd
  refine wpListIn_plain rfl fun K hK => ?_
  refine ⟨fun f _ => fence_fn fr f, ?_⟩
  rw [Oper.semAt_eq _ _ _ (by simp)]
  have h1 : (execOp a.eval { dst := some d, op := .alloc t, type := ty, pos := pos, after := af, guard := none }).run P w = .ok (.value (.pointer (some ⟨w.heap.size, 0, none⟩))) (w.alloc (.cells z.cells t)) := by
    simp only [execOp, Instr.alloc, Sem.run_bind, Sem.run_pure, hz.h, Result.andThen_ok, run_newVar]
  rw [h1]
  refine hK _ _ ?_
  refine wpListIn_plain rfl fun K2 hK2 => ?_
  refine ⟨fun f _ => fence_fn fr f, ?_⟩
  rw [Oper.semAt_eq _ _ _ (by simp)]
  have hne : e ≠ d := fun e' => by subst e'; simp at he
  have v1 : (a.put (some d) (.pointer (some ⟨w.heap.size, 0, none⟩))).eval (.tmp d) = .pointer (some ⟨w.heap.size, 0, none⟩) := by
    have : d < a.tmps.size := by rw [hR.size]; exact hdN
    simp [Act.eval, Act.put, this]
  have v2 : (a.put (some d) (.pointer (some ⟨w.heap.size, 0, none⟩))).eval (.tmp e) = a.tmps.getD e undef := by
    simp [Act.eval, Act.put, Ne.symm hne]
  generalize hv : a.tmps.getD e undef = v at ey v2
  have hcs := cellsO_conc ey hu
  have hkl : cs.length = k := Nat.eq_of_beq_eq_true hk
  have hzl : z.cells.size = k := Nat.eq_of_beq_eq_true hzk
  have hvl : v.cells.toList.length = k := by rw [hcs.1, hkl]
  have hone' : ∀ x ∈ v.cells.toList, x.oneCell' = true := fun x hx => by
    obtain ⟨i, hi, e⟩ := List.getElem_of_mem hx
    have hi2 : i < cs.length := by rw [← hcs.1]; exact hi
    exact AV.one_ok (hcs.2 i x _ (by rw [List.getElem?_eq_getElem hi, e]) (List.getElem?_eq_getElem hi2)) (List.all_eq_true.1 hone _ (List.getElem_mem hi2))
  have hg3 : (w.alloc (.cells z.cells t)).heap[w.heap.size]? = some (.cells z.cells t (0, 0)) := by
    show (w.heap.push _)[w.heap.size]? = _
    simp
  have hrun := Go.run_storeCells_at (P := P) w.heap.size 0 t v.cells.toList 0 z.cells (w.alloc (.cells z.cells t)) hg3 (by simp [hzl]; rw [← hvl]; simp) hone'
  have hlist : z.cells.toList.take (0 + 0) ++ v.cells.toList ++ z.cells.toList.drop (0 + 0 + v.cells.toList.length) = v.cells.toList := by
    rw [hvl, Nat.zero_add, Nat.zero_add, List.take_zero, List.drop_eq_nil_of_le (by simp [hzl])]; simp
  rw [hlist, setRow_push] at hrun
  have h2 : (execOp (a.put (some d) (.pointer (some ⟨w.heap.size, 0, none⟩))).eval { dst := none, op := .store t (.tmp d) (.tmp e), type := ty', pos := pos', after := af', guard := none }).run P (w.alloc (.cells z.cells t)) =
      .ok .skip { w with heap := w.heap.push (.cells v.cells.toList.toArray t (0, 0)), drawn := w.drawn + 0 } := by
    have hsz : v.cells.size = k := by rw [← hvl]; simp
    simp only [execOp, v1, v2]
    simp [Instr.storeAt, Instr.sureAddr, storeVar, hs.h, hsz, hrun, Result.andThen]
  rw [h2]
  obtain ⟨hle, hr'⟩ := hR.heap.allocImm v.cells.toList t (0, 0) 0
  refine hK2 _ _ (hw B _ _ _ ((hR.step hle hr').put hdN ?_))
  exact ep_mk (hcs.mono hle) (fun j u hu => by simpa using hu)
end
end Go.AL
