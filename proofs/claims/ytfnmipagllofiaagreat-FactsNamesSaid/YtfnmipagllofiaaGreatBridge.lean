/- The bridge from a call's contract in the abstract logic to what a statement asks. No condition. -/
import Derived.Test.YtfnmipagllofiaaGreatOps4
import Derived.ProofKit
import Derived.Carry
import Derived.Lib.SmallJoins
namespace Go.AL
open Go.RowKit
def Gh.all (W : World) : Gh := Gh.of fun b o => W.cell? ⟨b, o, none⟩
theorem PC.law {P : Program} [GlobF P] {f : FuncId} {xs : List AV} {u : Value} (h : PC P f xs (.sc u)) {W : World} {vs : List Value} (hgl : ∀ b o u, GlobF.f P b o = some u → W.cell? ⟨b, o, none⟩ = some u) (hc : ConcL (Gh.all W) vs xs) (hgo : ∀ b x, GlobF.o P b = some x → W.heap[b]? = some x := by intro _ _ e; cases e) :
    Calls P f vs.toArray W fun e W' => e = .returned u ∧ Below W.heap.size W W' :=
  (h.2 W (fun b o => W.cell? ⟨b, o, none⟩) vs ⟨hgl, hgo⟩ (fun _ _ _ e => e) hc).mono fun e W' ⟨r, imm', he, hg, _, _, hr⟩ => by
    have := conc_sc hr
    subst this
    exact ⟨he, hg.os, hg.tape, hg.output, hg.size, hg.out⟩
end Go.AL
