/- The rules of the abstract logic, ninth part: structs built; results; slices of slices; appending to a tail of one's own; ghosts that are let go. No condition. -/
import Derived.Test.YtnjnjbombcefcaaDoorMem
import Derived.Laws.OwnMore
import Derived.Laws.Slices
set_option linter.all false
namespace Go.AL
class Inf (P : Program) (t : TypeId) (k by_ : outParam Nat) (z : outParam Value) : Prop where
  h : ∃ i,P.info? t = some i ∧ i.size = k ∧ i.bytes = by_ ∧ i.zero = some z
theorem inf_of {P : Program} {t : TypeId} {k b : Nat} {z : Value} (h : (P.info? t).map (fun i=>(i.zero,i.size,i.bytes)) = some (some z,k,b)) : ∃ i,P.info? t = some i ∧ i.size = k ∧ i.bytes = b ∧ i.zero = some z:=by
  cases hi : P.info? t with
  | none=>rw [hi] at h;cases h
  | some i=>rw [hi] at h;simp only [Option.map_some,Option.some.injEq,Prod.mk.injEq] at h;exact ⟨i,rfl,h.2.1,h.2.2,h.1⟩
class Plc (P : Program) (t : TypeId) (ps : outParam (List (Nat × Nat))) : Prop where
  h : ∃ fields : Array Field,(∀ w,(underlying t).run P w = .ok (.struct fields) w) ∧ ∀ w,(fields.mapM fun f=>do pure (f.offset,← sizeOf f.type) : Sem (Array (Nat × Nat))).run P w = .ok ps.toArray w
def fillO (ρ : Operand → Option AV) (pl : Nat → Option (Nat × Nat)) : List AV → List (Nat × Operand) → Option (List AV)
  | acc,[]=>some acc
  | acc,(i,x) :: l=>match pl i,ρ x with
    | some (off,size),some v=>match cellsO v with
      | some cs=>match Nat.beq cs.length size && Nat.ble (off + size) acc.length with
        | true=>fillO ρ pl (acc.take off ++ cs ++ acc.drop (off + size)) l
        | false=>none
      | none=>none
    | _,_=>none
theorem over_conc {G : Gh} {cs vs : Array Value} {xs ys : List AV} {off : Nat} (h : ConcL G cs.toList xs) (h' : ConcL G vs.toList ys) (hl : off + ys.length ≤ xs.length) :
    ConcL G (over cs off vs).toList (xs.take off ++ ys ++ xs.drop (off + ys.length)):=by
  obtain ⟨h1,h2⟩:=over_spec cs off vs
  have e1 : cs.size = xs.length:=by have:=h.1;simpa using this
  have e2 : vs.size = ys.length:=by have:=h'.1;simpa using this
  refine ⟨?_,fun i v x hv hx=>?_⟩
  · simp only [Array.length_toList,h1,List.length_append,List.length_take,List.length_drop];omega
  · rw [Array.getElem?_toList,h2] at hv
    by_cases hc : off ≤ i ∧ i < off + vs.size ∧ i < cs.size
    · rw [if_pos hc] at hv
      rw [List.append_assoc,List.getElem?_append_right (by simp;omega),List.getElem?_append_left (by simp;omega)] at hx
      have : i - (xs.take off).length = i - off:=by simp;omega
      rw [this] at hx
      exact h'.2 _ v x (by simpa using hv) hx
    · rw [if_neg hc] at hv
      have hi : i < xs.length:=by
        have:=(Array.getElem?_eq_some_iff.1 hv).1;omega
      refine h.2 i v x (by simpa using hv) ?_
      rcases Nat.lt_or_ge i off with hlt|hge
      · rw [List.append_assoc,List.getElem?_append_left (by simp;omega),List.getElem?_take,if_pos hlt] at hx;exact hx
      · rw [List.getElem?_append_right (by simp;omega),List.getElem?_drop] at hx
        have : off + ys.length + (i - (xs.take off ++ ys).length) = i:=by simp;omega
        rw [this] at hx;exact hx
theorem fillO_spec {G : Gh} {a : Act} {ρ : Operand → Option AV} {pl : Nat → Option (Nat × Nat)} : ∀ {ps : List (Nat × Operand)} {acc els : List AV} {cs : Array Value},fillO ρ pl acc ps = some els → ConcL G cs.toList acc →
    (∀ p,p ∈ ps → ∀ u,ρ p.2 = some u → Conc G (a.eval p.2) u) → ∃ cs',Instr.fill pl cs (ps.map fun p=>(p.1,a.eval p.2)) = some cs' ∧ ConcL G cs'.toList els
  | [],acc,els,cs,h,hc,_=>by simp [fillO] at h;subst h;exact ⟨cs,rfl,hc⟩
  | (i, x) :: ps,acc,els,cs,h,hc,hE=>by
    simp only [fillO] at h
    split at h
    · rename_i off size v hp hx
      split at h
      · rename_i ys hy
        split at h
        · rename_i hb
          simp only [Bool.and_eq_true] at hb
          have hl : ys.length = size:=Nat.eq_of_beq_eq_true hb.1
          have hle : off + size ≤ acc.length:=by simpa using hb.2
          subst hl
          have hv:=cellsO_conc (hE (i,x) (.head _) v hx) hy
          have hn:=over_conc (off:=off) hc hv hle
          obtain ⟨cs',k1,k2⟩:=fillO_spec h hn fun p hp=>hE p (.tail _ hp)
          refine ⟨cs',?_,k2⟩
          have e1 : cs.size = acc.length:=by have:=hc.1;simpa using this
          have e2 : (a.eval x).cells.size = ys.length:=by have:=hv.1;simpa using this
          simp only [List.map_cons,Instr.fill,hp]
          rw [if_neg (by simp [e2];omega)]
          exact k1
        · cases h
      · cases h
    · cases h
section
variable {P : Program} [GlobF P] {ty : TypeId} {pos : String} {af : Array Edge} {dst : Option Nat} {gd : Option (Nat × Bool)} {ρ : Operand → Option AV} {hp : List AObj}
theorem D_build {t : TypeId} {ps : List (Nat × Operand)} {pl : List (Nat × Nat)} {z : Value} {els : List AV} [hz : Zer P t z] [hpl : Plc P t pl] (h : fillO ρ (fun i=>pl[i]?) (z.cells.toList.map .sc) ps = some els) :
    PPOp P { dst:=dst,op:=.build t ps.toArray,type:=ty,pos:=pos,after:=af,guard:=gd } ρ (.ag els) :=
  PPOp.val (by simp) (fun B G a w hR E=>by
    obtain ⟨fields,f1,f2⟩:=hpl.h
    have hc : ConcL G z.cells.toList (z.cells.toList.map AV.sc):=⟨by simp,fun i v x hv hx=>by
      rw [List.getElem?_map,hv] at hx;simp at hx;subst hx;exact .sc v⟩
    obtain ⟨cs',k1,k2⟩:=fillO_spec (a:=a) h hc fun p hp u hu=>E p.2 (by simp only [Op.operands,List.mem_map];exact ⟨p,hp,rfl⟩) u hu
    have k1' : Instr.fill (fun i=>pl.toArray[i]?) z.cells (ps.map fun p=>(p.1,a.eval p.2)) = some cs':=by
      rw [← k1];congr 1;funext i;simp
    exact ⟨.agg cs',by
      simp only [execOp,Instr.build,Sem.run_bind,hz.h,f1,f2,Result.andThen,List.map_toArray,Sem.run_pure]
      rw [k1'];rfl,by
      have:=Conc.ag (G:=G) k2.1 k2.2
      rwa [Array.toArray_toList] at this⟩)
end
end Go.AL
