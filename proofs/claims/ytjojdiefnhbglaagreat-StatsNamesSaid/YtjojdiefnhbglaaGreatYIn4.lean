/- slices.Insert of one struct of three cells, as a contract on rows. -/
import Derived.Test.YtjojdiefnhbglaaGreatYIn1
import Derived.Test.YtjojdiefnhbglaaGreatOps37
set_option linter.all false
namespace Go.Proofs
open Go.Shelf Go.RowKit Go.Lib Go.AL
theorem setCells_all (b : Nat) : ∀ (vs : List Value) (o : Nat) (w : World) (c : List Value) (ty : TypeId) (f : Nat × Nat),w.heap[b]? = some (.cells c.toArray ty f) → o + vs.length ≤ c.length →
    (w.setCells b o vs).tape = w.tape ∧ (w.setCells b o vs).os = w.os ∧ (w.setCells b o vs).output = w.output ∧ (w.setCells b o vs).drawn = w.drawn ∧ (w.setCells b o vs).heap.size = w.heap.size ∧
    (∀ b',b' ≠ b → (w.setCells b o vs).heap[b']? = w.heap[b']?) ∧ (w.setCells b o vs).heap[b]? = some (.cells (c.take o ++ vs ++ c.drop (o + vs.length)).toArray ty f)
  | [],o,w,c,ty,f,h,hl=>⟨rfl,rfl,rfl,rfl,rfl,fun _ _=>rfl,by simp [World.setCells,h]⟩
  | v :: vs,o,w,c,ty,f,h,hl=>by
    have ho : o < c.length:=by simp at hl;omega
    have hb : b < w.heap.size:=(Array.getElem?_eq_some_iff.1 h).1
    have h1 : (w.setCell ⟨b,o,none⟩ v).heap[b]? = some (.cells (c.set o v).toArray ty f):=by
      simp [World.setCell,Array.getElem?_modify,h]
    have ih:=setCells_all b vs (o + 1) (w.setCell ⟨b,o,none⟩ v) (c.set o v) ty f h1 (by simp at hl ⊢;omega)
    obtain ⟨a1,a2,a3,a4,a5,a6,a7⟩:=ih
    have e : c.set o v = (c.take o ++ [v]) ++ c.drop (o + 1):=by rw [List.set_eq_take_append_cons_drop,if_pos ho];simp
    have el : (c.take o ++ [v]).length = o + 1:=by simp;omega
    refine ⟨a1,a2,a3,a4,by rw [World.setCells,a5];simp [World.setCell],fun b' hb'=>?_,?_⟩
    · rw [World.setCells,a6 b' hb']
      simp [World.setCell,Array.getElem?_modify,Ne.symm hb']
    · rw [World.setCells,a7,e]
      congr 3
      have t1 : ((c.take o ++ [v]) ++ c.drop (o + 1)).take (o + 1) = c.take o ++ [v]:=by rw [← el];exact List.take_left
      have t2 : ((c.take o ++ [v]) ++ c.drop (o + 1)).drop (o + 1 + vs.length) = c.drop (o + (v :: vs).length):=by
        rw [List.drop_append,el,List.drop_of_length_le (by omega),List.nil_append,List.drop_drop]
        congr 1;simp;omega
      rw [t1,t2];simp
end Go.Proofs
