/- The bridge from a call's contract in the abstract logic to what a statement asks. No condition. -/
import Derived.Test.YtnjnjbombcefcaaDoorDraw
import Derived.ProofKit
import Derived.Carry
import Derived.Lib.SmallJoins
import Derived.Test.YtnjnjbombcefcaaDoorApp4
import Derived.Deep.Slices
import Derived.ChangeArms
import Derived.ChangeOld
set_option linter.all false
namespace Go.AL
open Go.RowKit
def Gh.all (W : World) : Gh:=Gh.of fun b o=>W.cell? ⟨b,o,none⟩
theorem PC.law {P : Program} [GlobF P] {f : FuncId} {xs : List AV} {u : Value} (h : PC P f xs (.sc u)) {W : World} {vs : List Value} (hgl : ∀ b o u,GlobF.f P b o = some u → W.cell? ⟨b,o,none⟩ = some u) (hc : ConcL (Gh.all W) vs xs) (hgo : ∀ b x,GlobF.o P b = some x → W.heap[b]? = some x:=by intro _ _ e;cases e) :
    Calls P f vs.toArray W fun e W'=>e = .returned u ∧ Below W.heap.size W W' :=
  (h.2 W (fun b o=>W.cell? ⟨b,o,none⟩) vs ⟨hgl,hgo⟩ (fun _ _ _ e=>e) hc).mono fun e W' ⟨r,imm',he,hg,_,_,hr⟩=>by
    have:=conc_sc hr
    subst this
    exact ⟨he,hg.os,hg.tape,hg.output,hg.size,hg.out⟩
theorem conc_str {G : Gh} (s : ByteArray) : Conc G (.string s) (str s.data.toList):=by
  have e : (⟨s.data.toList.toArray⟩ : ByteArray) = s:=by cases s;simp
  have:=Conc.sc (G:=G) (.string ⟨s.data.toList.toArray⟩)
  rw [e] at this
  unfold str
  rw [e]
  exact this
end Go.AL

namespace Go.AL
class Opn (P : Program) (t : TypeId) {α : outParam Type} (enc : outParam (α → List AV)) (ok : outParam (α → Prop)) : Prop where
  h : ∀ {H : Type} {en : TypeId × Value → H} {w : World} {base : Nat} {spare : Nat → Bool} {held : Bool} {fuel : Nat} {cs : List Value} {x : DataW H × List MemPlace},(∀ b,spare b = true) →
    DataW.trod en P w base spare held fuel t cs = some x → ∃ a,ConcL (Gh.all w) cs (enc a) ∧ ok a
class Cel (P : Program) (t : TypeId) (n : outParam Nat) : Prop where
  h : P.cellsOf t = n
theorem opn_int {P : Program} {t : TypeId} {k : IntKind} (ht : P.underlying t = some (.int k)) : Opn P t (α:=Int) (fun n=>[.sc (.int k n)]) (fun n=>(Lit.int k n).wf = true):=⟨fun _ h=>by
  obtain ⟨n,rfl,_,hw⟩:=DataW.trod_int ht h
  exact ⟨n,.cons (.sc _) (.nil _),hw⟩⟩
theorem opn_bool {P : Program} {t : TypeId} (ht : P.underlying t = some .bool) : Opn P t (α:=Bool) (fun b=>[.sc (.bool b)]) (fun _=>True):=⟨fun _ h=>by
  obtain ⟨n,rfl,_⟩:=DataW.trod_bool ht h
  exact ⟨n,.cons (.sc _) (.nil _),trivial⟩⟩
theorem opn_str {P : Program} {t : TypeId} (ht : P.underlying t = some .string) : Opn P t (α:=List UInt8) (fun l=>[str l]) (fun l=>l.length ≤ maxLen):=⟨fun _ h=>by
  obtain ⟨s,rfl,_,hs⟩:=DataW.trod_string ht h
  exact ⟨s.data.toList,.cons (conc_str s) (.nil _),hs⟩⟩
theorem Opn.arg {H : Type} {en : TypeId × Value → H} {P : Program} {w : World} {t : TypeId} {v : Value} {d : DataW H} {ps : List MemPlace} {base : Nat} {held : Bool} {α : Type} {enc : α → List AV} {ok : α → Prop} [ho : Opn P t enc ok] (h : DataW.Trod en P w base (fun _=>true) held t v d ps) :
    ∃ a,ConcL (Gh.all w) v.cells.toList (enc a) ∧ ok a:=by
  obtain ⟨fuel,hf⟩:=h
  exact ho.h (fun _=>rfl) hf
theorem one_arg {G : Gh} {v : Value} {x : AV} (hv : v.cells = #[v]) (h : ConcL G v.cells.toList [x]) : Conc G v x:=by
  rw [hv] at h
  exact h.split.1
end Go.AL
