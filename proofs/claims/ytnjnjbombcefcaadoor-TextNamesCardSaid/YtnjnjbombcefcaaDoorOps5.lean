/- The rules of the abstract logic, thirteenth part: arrays; calls upon a heap. No condition. -/
import Derived.Test.YtnjnjbombcefcaaDoorApp4
import Derived.Laws.BytesArg
set_option linter.all false
namespace Go.AL
section
variable {P : Program} [GlobF P] {ty : TypeId} {pos : String} {af : Array Edge} {dst : Option Nat} {gd : Option (Nat × Bool)} {ρ : Operand → Option AV}
theorem strOfNums_bytes (l : List UInt8) : strOfNums (l.map fun b=>(b.toNat : Int)) = ByteArray.mk l.toArray:=by
  simp only [strOfNums,List.map_map]
  congr 2
  have : ((fun n : Int=>UInt8.ofNat n.toNat) ∘ fun b : UInt8=>(b.toNat : Int)) = id:=by
    funext b;simp
  first|(rw [this];simp)|simp
theorem D_b2s {t t' e : TypeId} {x : Operand} {l : List UInt8} {tok : Option Nat} [hs : Und P t (.slice e)] [hu : Und P t' .string] [he : Und P e (.int .u8)] (hx : ρ x = some (.sl tok 1 (l.map byteC))) : PPOp P { dst:=dst,op:=.convert t t' x,type:=ty,pos:=pos,after:=af,guard:=gd } ρ (str l) :=
  PPOp.val (by simp) (fun B G a w hR E=>by
    have ex:=E _ (by first|exact List.Mem.head _|exact List.Mem.tail _ (List.Mem.head _)) _ hx
    refine ⟨.string ⟨l.toArray⟩,?_,.sc _⟩
    have key : (convert t t' (a.eval x)).run P w = .ok (.string ⟨l.toArray⟩) w:=by
      generalize hv : a.eval x = v at ex
      generalize hels : List.map byteC l = els at ex
      cases ex with
      | @sl b o cap _ _ _ us hk hcap him hc ht =>
        subst hels
        rw [← strOfNums_bytes l]
        refine run_convert_bytes_arg w t e hs.h he.h b o (List.map byteC l).length cap (l.map fun b=>(b.toNat : Int)) (by simp) (fun i hi=>?_) t' hu.h
        simp at hi
        have h1:=hR.imm _ _ _ (him i 0 (by simpa using hi) (by omega))
        have h2:=hc i (byteC l[i]) 0 _ (by simp [hi]) rfl
        rw [conc_sc h2] at h1
        simpa [hi] using h1
      | slnil ht =>
        have : l = []:=by simpa using hels
        subst this
        exact run_convert_bytes_nil w t e hs.h he.h 0 0 t' hu.h
      | @slz a0 k =>
        have : l = []:=by simpa using hels
        subst this
        rw [run_convert_bytes_string w t t' e _ 0 0 hs.h he.h hu.h]
        simp [Conv.bytesToString,loadCells,loadCellsFrom]
        rfl
    simp only [execOp,Sem.run_bind,key];rfl)
end
section
variable {P : Program} [GlobF P] {fr : Option Nat} {N : Nat} {Q : Exit → AS → Prop} {ops : Array Oper} {rest : List Oper} {rg : List (Nat × AV)} {h : List AObj} {mk : Mk} {ty : TypeId} {pos : String} {af : Array Edge} {d : Nat}
theorem WL_enterR {op : Op} {f : FuncId} {xs : List AV} {K : AV → List AObj → Prop} (hd : Nat.blt d N = true) (hdef : ∀ c,op ≠ .defer c) (hac : AC P f xs h K)
    (hop : ∀ (B : Base P) (G : Gh) (a : Act) (w : World),R B N G ⟨rg,h,mk⟩ a w → ∃ vs,(execOp a.eval { dst:=some d,op:=op,type:=ty,pos:=pos,after:=af,guard:=none }).run P w = (callFunc f vs.toArray).run P w ∧ ConcL G vs xs)
    (hk : ∀ v h',K v h' → WL P fr N ops rest Q ⟨(d,v) :: rg,h',mk⟩) :
    WL P fr N ops ({ dst:=some d,op:=op,type:=ty,pos:=pos,after:=af,guard:=none } :: rest) Q ⟨rg,h,mk⟩ :=
  WL_enter (s:=⟨rg,h,mk⟩) hd hdef hac hop hk
theorem m_call {x : Operand} {args : List Operand} {ts : Array TypeId} {f : FuncId} {xs : List AV} {K : AV → List AObj → Prop} (hac : AC P f xs h K) (hx : evR rg x = some (.sc (.func (.func f) #[] #[]))) (ha : opsO (evR rg) args = some xs) (hd : Nat.blt d N = true)
    (hk : ∀ v h',K v h' → WL P fr N ops rest Q ⟨(d,v) :: rg,h',mk⟩) :
    WL P fr N ops ({ dst:=some d,op:=.call { callee:=.value x,args:=args.toArray,argTypes:=ts },type:=ty,pos:=pos,after:=af,guard:=none } :: rest) Q ⟨rg,h,mk⟩ :=
  WL_enterR hd (by simp) hac (fun B G a w hR=>⟨args.map a.eval,by
    have ex:=hR.ev x
    rw [show (⟨rg,h,mk⟩ : AS).ev x = _ from AS.evO_eq ((evR_eq rg h mk) ▸ hx)] at ex
    rw [exec_call (fs:=[]) (cs:=[]) a.eval (conc_sc ex)];simp,opsO_conc ha fun x _ u hu=>by
      have:=hR.ev x
      rwa [show (⟨rg,h,mk⟩ : AS).ev x = u from AS.evO_eq ((evR_eq rg h mk) ▸ hu)] at this⟩) hk
theorem m_app {t e tk k n by_ : Nat} {x y : Operand} {els els' : List (List AV)} {tok' : Option Nat} {z : Value} [hu : Und P t (.slice e)] [hi : Inf P e k by_ z] [hone : OneLL els'] (hx : evR rg x = some (.sl (some tk) k els)) (hy : evR rg y = some (.sl tok' k els'))
    (ht : h[tk]? = some (.tail n k e)) (hn : n = els.length) (hk : Nat.blt 0 k = true) (hzk : Nat.beq z.cells.size k = true) (hb : (els.length + els'.length) * by_ ≤ 140737488355328) (h63 : els.length + els'.length < 4611686018427387904) (hd : Nat.blt d N = true)
    (hw : WL P fr N ops rest Q ⟨(d,.sl (some tk) k (els ++ els')) :: rg,h.set tk (.tail (els.length + els'.length) k e),mk⟩) :
    WL P fr N ops ({ dst:=some d,op:=.call { callee:=.builtin .append,args:=#[x,y],argTypes:=#[t,t] },type:=ty,pos:=pos,after:=af,guard:=none } :: rest) Q ⟨rg,h,mk⟩ :=
  pV (S_app hx hy ht hn hk hzk hb h63) hd hw
end
theorem set_self {α : Type} {h : List α} {i : Nat} {x : α} (hi : h[i]? = some x) : h.set i x = h:=by
  apply List.ext_getElem? ; intro j
  by_cases e : i = j
  · subst e;rw [List.getElem?_set_self (List.getElem?_eq_some_iff.1 hi).1,hi]
  · rw [List.getElem?_set_ne e]
theorem get_set {α : Type} {h : List α} {i : Nat} {x y : α} (hi : h[i]? = some x) : (h.set i y)[i]? = some y:=List.getElem?_set_self (List.getElem?_eq_some_iff.1 hi).1
section
variable {P : Program} [GlobF P]
theorem ret0 {fn : Func} {e : Exit} {K : AV → List AObj → Prop} {rg : List (Nat × AV)} {h : List AObj} {mk : Mk} (he : e = .ret ∨ e = .normal) (hf : fn.results = #[]) (hm : mk.l = []) (hk : K (.tu []) h) : Ret P fn K e ⟨rg,h,mk⟩:=by
  obtain ⟨l,n0⟩:=mk
  simp only at hm;subst hm
  exact retK he (rs:=[]) (vs:=[]) hf trivial trivial hk
theorem retK1 {fn : Func} {e : Exit} {K : AV → List AObj → Prop} {rg : List (Nat × AV)} {h : List AObj} {mk : Mk} {r : ResultVar} {v : AV} (he : e = .ret ∨ e = .normal) (hf : fn.results = #[r]) (hm : mk.l = []) (hr : ResO P rg h r v) (hk : K v h) : Ret P fn K e ⟨rg,h,mk⟩:=by
  obtain ⟨l,n0⟩:=mk
  simp only at hm;subst hm
  exact retK he (rs:=[r]) (vs:=[v]) hf trivial ⟨hr,trivial⟩ hk
end
section
variable {P : Program} [GlobF P] {fr : Option Nat} {N : Nat} {Q : Exit → AS → Prop} {ops : Array Oper} {rest : List Oper} {s : AS} {ty : TypeId} {pos : String} {af : Array Edge} {dst : Option Nat}
theorem idAp {xs : Array Operand} {ts : Array TypeId} {g : Option (Nat × Bool)} (h : WL P fr N ops ({ dst:=dst,op:=.call { callee:=.builtin .append,args:=xs,argTypes:=ts },type:=ty,pos:=pos,after:=af,guard:=g } :: rest) Q s) : WL P fr N ops ({ dst:=dst,op:=.call { callee:=.builtin .append,args:=xs,argTypes:=ts },type:=ty,pos:=pos,after:=af,guard:=g } :: rest) Q s:=h
end
end Go.AL

namespace Go.AL
section
variable {P : Program} [GlobF P] {fr : Option Nat} {N : Nat} {Q : Exit → AS → Prop} {ops : Array Oper} {rg : List (Nat × AV)} {h : List AObj} {mk : Mk}
theorem R.adoptC {B : Base P} {G : Gh} {a : Act} {w : World} {r j k e : Nat} {xs : List AV} {tp : Option TypeId} (hR : R B N G ⟨rg,h,mk⟩ a w) (hr0 : h[r]? = some (.cells xs tp)) (hj : xs[j]? = some (.sc (.slice none 0 0))) :
    ∃ G',R B N G' ⟨rg,(h ++ [AObj.tail 0 k e]).set r (.cells (xs.set j (.sl (some h.length) k [])) tp),mk⟩ a w:=by
  have hr:=hR.heap
  obtain ⟨f1,f2⟩:=hr.fresh h.length (Nat.le_refl _)
  let G' : Gh:=⟨G.imm,G.blk,fun r j=>if r = h.length ∧ j = 0 then some (.slice none 0 0) else G.tl r j⟩
  have hle : G.le G':=⟨fun _ _ _ e=>e,fun _ _ e=>e,fun r j v e=>by
    show (if r = h.length ∧ j = 0 then _ else G.tl r j) = some v
    rw [if_neg fun h=>by obtain ⟨rfl,rfl⟩:=h;rw [f2] at e;cases e];exact e⟩
  have hh : RH B G' (h ++ [AObj.tail 0 k e]) w:=by
    refine hr.allocObj _ hle rfl rfl rfl (Nat.le_refl _) (Nat.le_refl _) (fun _ _=>rfl) (fun _ _ _=>rfl) hr.imm (fun r hne=>⟨rfl,fun n=>if_neg fun h=>hne h.1⟩) ?_ (fun b hb=>?_)
    · exact ⟨fun j hj=>by show (if h.length = h.length ∧ j = 0 then _ else _) = none;rw [if_neg fun h=>by omega];exact f2 j,.inl ⟨rfl,if_pos ⟨rfl,rfl⟩⟩⟩
    · simp only [ownBlk] at hb
      have e1 : G'.tl h.length 0 = some (.slice none 0 0):=if_pos ⟨rfl,rfl⟩
      rw [e1] at hb;cases hb
  have hlt : r < h.length:=(List.getElem?_eq_some_iff.1 hr0).1
  have hr1 : (h ++ [AObj.tail 0 k e])[r]? = some (.cells xs tp):=by rw [List.getElem?_append_left hlt];exact hr0
  obtain ⟨b,c,ty,g1,g2,g3,g4,g5⟩:=hh.obj r _ hr1
  have hc : ConcL G' c (xs.set j (.sl (some h.length) k [])):=⟨by simp [g4.1],fun i v x hv hx=>by
    by_cases e : j = i
    · subst e
      have hjl : j < xs.length:=(List.getElem?_eq_some_iff.1 hj).1
      rw [List.getElem?_set_self hjl] at hx
      cases hx
      have:=g4.2 j v _ hv hj
      rw [conc_sc this]
      exact .slnil fun t e=>by cases e;exact if_pos ⟨rfl,rfl⟩
    · rw [List.getElem?_set_ne e] at hx
      exact g4.2 i v x hv hx⟩
  have hh2:=hh.set (w':=w) (b:=b) (o':=.cells (xs.set j (.sl (some h.length) k [])) tp) hr1 g1 g2 rfl rfl rfl (Nat.le_refl _) rfl (fun _ _=>rfl) (fun i v hv=>by rw [g5 i] at hv;cases hv) ⟨b,c,ty,g1,g2,g3,hc,g5⟩ (fun c hc=>by
    simp only [ownBlk] at hc;rw [g1] at hc;exact (Option.some.inj hc).symm)
  exact ⟨G',hR.step hle hh2⟩
theorem WL_adoptC {l : List Oper} (r j k e : Nat) {xs : List AV} {tp : Option TypeId} (hr0 : h[r]? = some (.cells xs tp)) (hj : xs[j]? = some (.sc (.slice none 0 0)))
    (hk : WL P fr N ops l Q ⟨rg,(h ++ [AObj.tail 0 k e]).set r (.cells (xs.set j (.sl (some h.length) k [])) tp),mk⟩) : WL P fr N ops l Q ⟨rg,h,mk⟩:=by
  intro B G a w hR
  obtain ⟨G',hR'⟩:=hR.adoptC (k:=k) (e:=e) hr0 hj
  exact hk B G' a w hR'
end
section
variable {P : Program} [GlobF P] {ty : TypeId} {pos : String} {af : Array Edge} {dst : Option Nat} {gd : Option (Nat × Bool)} {ρ : Operand → Option AV}
end
end Go.AL
