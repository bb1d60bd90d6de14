/- The rules of the abstract logic, thirteenth part: arrays; calls upon a heap. No condition. -/
import Derived.Test.YtjojdiefnhbglaaApp4
import Derived.Laws.BytesArg
set_option linter.all false
namespace Go.AL
section
variable {P : Program} [GlobF P] {ty : TypeId} {pos : String} {af : Array Edge} {dst : Option Nat} {gd : Option (Nat × Bool)} {ρ : Operand → Option AV}
theorem D_ixVA {t n e k : Nat} {x ix : Operand} {cells : List AV} {kk : IntKind} {i : Int} [hu : Und P t (.array n e)] [hs : Siz P e k] [ha : Agg P e true] (hx : ρ x = some (.ag cells)) (hi : ρ ix = some (.sc (.int kk i))) (h0 : 0 ≤ i) (h1 : i < n)
    : PPOp P { dst:=dst,op:=.index t x ix,type:=ty,pos:=pos,after:=af,guard:=gd } ρ (.ag ((cells.drop (i.toNat * k)).take k)) :=
  PPOp.val (by simp) (fun B G a w hR E=>by
    have ex:=E _ (by first|exact List.Mem.head _|exact List.Mem.tail _ (List.Mem.head _)) _ hx
    have ei:=conc_sc (E _ (by first|exact List.Mem.head _|exact List.Mem.tail _ (List.Mem.head _)) _ hi)
    generalize hv : a.eval x = v at ex
    cases ex with
    | @ag cs _ l h =>
      have hc : ConcL G ((cs.drop (i.toNat * k)).take k) ((cells.drop (i.toNat * k)).take k):=(ConcL.drop ⟨l,h⟩ _).take _
      refine ⟨.agg ((cs.drop (i.toNat * k)).take k).toArray,?_,.ag hc.1 hc.2⟩
      simp [execOp,Instr.index,hv,ei,asIntOf,run_underlying hu.h,h0,h1,hs.h,part,ha.h])
theorem D_ixPB {t n e k r o : Nat} {x ix : Operand} {kk : IntKind} {i : Int} [hu : Und P t (.array n e)] [hs : Siz P e k] (hx : ρ x = some (.bp r o)) (hi : ρ ix = some (.sc (.int kk i))) (h0 : 0 ≤ i) (h1 : i < n)
    : PPOp P { dst:=dst,op:=.indexAddr t x ix,type:=ty,pos:=pos,after:=af,guard:=gd } ρ (.bp r (o + i.toNat * k)) :=
  PPOp.val (by simp) (fun B G a w hR E=>by
    obtain ⟨b,hv,hb⟩:=conc_bp (E _ (by first|exact List.Mem.head _|exact List.Mem.tail _ (List.Mem.head _)) _ hx)
    have ei:=conc_sc (E _ (by first|exact List.Mem.head _|exact List.Mem.tail _ (List.Mem.head _)) _ hi)
    exact ⟨.pointer (some ⟨b,o + i.toNat * k,none⟩),by simp [execOp,Instr.indexAt,Instr.sureAddr,hv,ei,asIntOf,run_underlying hu.h,h0,h1,hs.h,add_none],.bp hb⟩)
theorem D_slPE {α : Type} {t n e : Nat} {x : Operand} {l : List α} {f : α → AV} [hu : Und P t (.array n e)] [hs : Siz P e 1] (hx : ρ x = some (.ep (l.map f))) (hn : l.length = n) (h0 : Nat.blt 0 n = true)
    : PPOp P { dst:=dst,op:=.slice t x none none none,type:=ty,pos:=pos,after:=af,guard:=gd } ρ (.sl none 1 (l.map fun a=>[f a])) :=
  PPOp.val (by simp) (fun B G a w hR E=>by
    have ex:=E _ (by first|exact List.Mem.head _|exact List.Mem.tail _ (List.Mem.head _)) _ hx
    have h0' : 0 < n:=by simpa [Nat.blt_eq] using h0
    generalize hv : a.eval x = v at ex
    cases ex with
    | @ep b o _ us him hc =>
      refine ⟨.slice (some ⟨b,o,none⟩) n n,?_,?_⟩
      · simp [execOp,Instr.sliceAt,Instr.sliceBounds,Instr.sureAddr,hv,run_underlying hu.h,hs.h,add_none]
      · have hl : (l.map fun a=>[f a]).length = n:=by simpa using hn
        rw [← hl]
        refine .sl (fun i j=>us (i + j)) (fun e he=>?_) (Nat.le_refl _) (fun i j hi hj=>?_) (fun i e j x he hx=>?_) (fun t e=>by cases e)
        · obtain ⟨a,_,rfl⟩:=List.mem_map.1 he;rfl
        · rw [Nat.mul_one,Nat.add_assoc];exact him _ (by simp at hi ⊢;omega)
        · rw [List.getElem?_map,Option.map_eq_some_iff] at he
          obtain ⟨a,ha,rfl⟩:=he
          cases j with
          | zero =>
            simp at hx;subst hx
            exact hc i (f a) (by rw [List.getElem?_map,ha];rfl)
          | succ j=>simp at hx)
end
section
variable {P : Program} [GlobF P] {fr : Option Nat} {N : Nat} {Q : Exit → AS → Prop} {ops : Array Oper} {rest : List Oper} {rg : List (Nat × AV)} {h : List AObj} {mk : Mk} {ty : TypeId} {pos : String} {af : Array Edge} {d : Nat}
theorem WL_enterR {op : Op} {f : FuncId} {xs : List AV} {K : AV → List AObj → Prop} (hd : Nat.blt d N = true) (hdef : ∀ c,op ≠ .defer c) (hac : AC P f xs h K)
    (hop : ∀ (B : Base P) (G : Gh) (a : Act) (w : World),R B N G ⟨rg,h,mk⟩ a w → ∃ vs,(execOp a.eval { dst:=some d,op:=op,type:=ty,pos:=pos,after:=af,guard:=none }).run P w = (callFunc f vs.toArray).run P w ∧ ConcL G vs xs)
    (hk : ∀ v h',K v h' → WL P fr N ops rest Q ⟨(d,v) :: rg,h',mk⟩) :
    WL P fr N ops ({ dst:=some d,op:=op,type:=ty,pos:=pos,after:=af,guard:=none } :: rest) Q ⟨rg,h,mk⟩ :=
  WL_enter (s:=⟨rg,h,mk⟩) hd hdef hac hop hk
theorem m_call {x : Operand} {args : List Operand} {ts : Array TypeId} {f : FuncId} {xs : List AV} {K : AV → List AObj → Prop} (hac : AC P f xs h K) (hx : evR rg x = some (.sc (.func (.func f) #[] #[]))) (ha : opsO (evR rg) args = some xs) (hd : Nat.blt d N = true)
    (hk : ∀ v h',K v h' → WL P fr N ops rest Q ⟨(d,v) :: rg,h',mk⟩) :
    WL P fr N ops ({ dst:=some d,op:=.call { callee:=.value x,args:=args.toArray,argTypes:=ts },type:=ty,pos:=pos,after:=af,guard:=none } :: rest) Q ⟨rg,h,mk⟩ :=
  WL_enterR hd (by simp) hac (fun B G a w hR=>⟨args.map a.eval,by
    have ex:=hR.ev x
    rw [show (⟨rg,h,mk⟩ : AS).ev x = _ from AS.evO_eq ((evR_eq rg h mk) ▸ hx)] at ex
    rw [exec_call (fs:=[]) (cs:=[]) a.eval (conc_sc ex)];simp,opsO_conc ha fun x _ u hu=>by
      have:=hR.ev x
      rwa [show (⟨rg,h,mk⟩ : AS).ev x = u from AS.evO_eq ((evR_eq rg h mk) ▸ hu)] at this⟩) hk
theorem m_lit {t e n k by_ : Nat} {ps : List (Nat × Operand)} {els : List (List AV)} {z : Value} [hu : Und P t (.slice e)] [hs : Siz P e k] [hz : Zer P e z] [hi : Inf P e k by_ z]
    (hps : partsO (evR rg) 0 ps = some els) (hn : Nat.beq n ps.length = true) (hk : els.all (fun e=>Nat.beq e.length k) = true) (hm : Nat.ble (n * k) 1000 = true) (hn1 : Nat.ble n 1000 = true) (hd : Nat.blt d N = true)
    (hw : WL P fr N ops rest Q ⟨(d,.sl (some h.length) k els) :: rg,h ++ [.tail n k e],mk⟩) :
    WL P fr N ops ({ dst:=some d,op:=.buildSlice t n ps.toArray,type:=ty,pos:=pos,after:=af,guard:=none } :: rest) Q ⟨rg,h,mk⟩:=by
  refine WL_resv 1 (pV (S_lit h.length ?_ hps hn hk hm hn1) hd ?_)
  · simp [resv]
  · have : (resv 1 h).set h.length (.tail n k e) = h ++ [.tail n k e]:=by simp [resv]
    rw [this];exact hw
theorem m_app {t e tk k n by_ : Nat} {x y : Operand} {els els' : List (List AV)} {tok' : Option Nat} {z : Value} [hu : Und P t (.slice e)] [hi : Inf P e k by_ z] [hone : OneLL els'] (hx : evR rg x = some (.sl (some tk) k els)) (hy : evR rg y = some (.sl tok' k els'))
    (ht : h[tk]? = some (.tail n k e)) (hn : n = els.length) (hk : Nat.blt 0 k = true) (hzk : Nat.beq z.cells.size k = true) (hb : (els.length + els'.length) * by_ ≤ 140737488355328) (h63 : els.length + els'.length < 4611686018427387904) (hd : Nat.blt d N = true)
    (hw : WL P fr N ops rest Q ⟨(d,.sl (some tk) k (els ++ els')) :: rg,h.set tk (.tail (els.length + els'.length) k e),mk⟩) :
    WL P fr N ops ({ dst:=some d,op:=.call { callee:=.builtin .append,args:=#[x,y],argTypes:=#[t,t] },type:=ty,pos:=pos,after:=af,guard:=none } :: rest) Q ⟨rg,h,mk⟩ :=
  pV (S_app hx hy ht hn hk hzk hb h63) hd hw
theorem m_appB {t e tk k n by_ : Nat} {x y : Operand} {els els' : List (List AV)} {tok' : Option Nat} {z : Value} [hu : Und P t (.slice e)] [hi : Inf P e k by_ z] (hx : evR rg x = some (.sl (some tk) k els)) (hy : evR rg y = some (.sl tok' k els')) (hone : els'.all (fun e=>e.all AV.one) = true)
    (ht : h[tk]? = some (.tail n k e)) (hn : n = els.length) (hk : Nat.blt 0 k = true) (hzk : Nat.beq z.cells.size k = true) (hb : (els.length + els'.length) * by_ ≤ 140737488355328) (h63 : els.length + els'.length < 4611686018427387904) (hd : Nat.blt d N = true)
    (hw : WL P fr N ops rest Q ⟨(d,.sl (some tk) k (els ++ els')) :: rg,h.set tk (.tail (els.length + els'.length) k e),mk⟩) :
    WL P fr N ops ({ dst:=some d,op:=.call { callee:=.builtin .append,args:=#[x,y],argTypes:=#[t,t] },type:=ty,pos:=pos,after:=af,guard:=none } :: rest) Q ⟨rg,h,mk⟩ :=
  haveI : OneLL els':=⟨fun e he=>⟨fun x hx=>List.all_eq_true.1 (List.all_eq_true.1 hone e he) x hx⟩⟩
  m_app hx hy ht hn hk hzk hb h63 hd hw
end
theorem sleq {tok : Option Nat} {k : Nat} {a b : List (List AV)} (h : a = b) : some (AV.sl tok k a) = some (.sl tok k b):=by rw [h]
theorem Le.tokq {tok : Option Nat} {k : Nat} {els els' : List (List AV)} (h : els = els') [hs : PurLL els'] : Le (.sl tok k els) (.sl none k els'):=by
  subst h;exact Le.sl hs.h
theorem set_self {α : Type} {h : List α} {i : Nat} {x : α} (hi : h[i]? = some x) : h.set i x = h:=by
  apply List.ext_getElem? ; intro j
  by_cases e : i = j
  · subst e;rw [List.getElem?_set_self (List.getElem?_eq_some_iff.1 hi).1,hi]
  · rw [List.getElem?_set_ne e]
theorem get_set {α : Type} {h : List α} {i : Nat} {x y : α} (hi : h[i]? = some x) : (h.set i y)[i]? = some y:=List.getElem?_set_self (List.getElem?_eq_some_iff.1 hi).1
theorem setSet2 {α : Type} {h : List α} {i : Nat} {x y y' : α} (e : y = y') : (h.set i x).set i y = h.set i y':=by rw [List.set_set,e]
theorem u64w (n : Nat) (h : n < 18446744073709551616) : IntKind.u64.wrap (n : Int) = n:=by
  simp only [IntKind.wrap,IntKind.bits,IntKind.signed,Bool.false_and,Bool.false_eq_true,if_false]
  omega
theorem u8w (n : Nat) : IntKind.u8.wrap (n : Int) = ((UInt8.ofNat n).toNat : Int):=by
  simp only [IntKind.wrap,IntKind.bits,IntKind.signed,Bool.false_and,Bool.false_eq_true,if_false,UInt8.toNat_ofNat']
  omega
section
variable {P : Program} [GlobF P]
theorem ret0 {fn : Func} {e : Exit} {K : AV → List AObj → Prop} {rg : List (Nat × AV)} {h : List AObj} {mk : Mk} (he : e = .ret ∨ e = .normal) (hf : fn.results = #[]) (hm : mk.l = []) (hk : K (.tu []) h) : Ret P fn K e ⟨rg,h,mk⟩:=by
  obtain ⟨l,n0⟩:=mk
  simp only at hm;subst hm
  exact retK he (rs:=[]) (vs:=[]) hf trivial trivial hk
theorem retK1 {fn : Func} {e : Exit} {K : AV → List AObj → Prop} {rg : List (Nat × AV)} {h : List AObj} {mk : Mk} {r : ResultVar} {v : AV} (he : e = .ret ∨ e = .normal) (hf : fn.results = #[r]) (hm : mk.l = []) (hr : ResO P rg h r v) (hk : K v h) : Ret P fn K e ⟨rg,h,mk⟩:=by
  obtain ⟨l,n0⟩:=mk
  simp only at hm;subst hm
  exact retK he (rs:=[r]) (vs:=[v]) hf trivial ⟨hr,trivial⟩ hk
end
section
variable {P : Program} [GlobF P] {fr : Option Nat} {N : Nat} {Q : Exit → AS → Prop} {ops : Array Oper} {rest : List Oper} {s : AS} {ty : TypeId} {pos : String} {af : Array Edge} {dst : Option Nat}
theorem idAp {xs : Array Operand} {ts : Array TypeId} {g : Option (Nat × Bool)} (h : WL P fr N ops ({ dst:=dst,op:=.call { callee:=.builtin .append,args:=xs,argTypes:=ts },type:=ty,pos:=pos,after:=af,guard:=g } :: rest) Q s) : WL P fr N ops ({ dst:=dst,op:=.call { callee:=.builtin .append,args:=xs,argTypes:=ts },type:=ty,pos:=pos,after:=af,guard:=g } :: rest) Q s:=h
end
end Go.AL

namespace Go.AL
section
variable {P : Program} [GlobF P] {fr : Option Nat} {N : Nat} {Q : Exit → AS → Prop} {ops : Array Oper} {rg : List (Nat × AV)} {h : List AObj} {mk : Mk}
theorem R.adoptC {B : Base P} {G : Gh} {a : Act} {w : World} {r j k e : Nat} {xs : List AV} {tp : Option TypeId} (hR : R B N G ⟨rg,h,mk⟩ a w) (hr0 : h[r]? = some (.cells xs tp)) (hj : xs[j]? = some (.sc (.slice none 0 0))) :
    ∃ G',R B N G' ⟨rg,(h ++ [AObj.tail 0 k e]).set r (.cells (xs.set j (.sl (some h.length) k [])) tp),mk⟩ a w:=by
  have hr:=hR.heap
  obtain ⟨f1,f2⟩:=hr.fresh h.length (Nat.le_refl _)
  let G' : Gh:=⟨G.imm,G.blk,fun r j=>if r = h.length ∧ j = 0 then some (.slice none 0 0) else G.tl r j⟩
  have hle : G.le G':=⟨fun _ _ _ e=>e,fun _ _ e=>e,fun r j v e=>by
    show (if r = h.length ∧ j = 0 then _ else G.tl r j) = some v
    rw [if_neg fun h=>by obtain ⟨rfl,rfl⟩:=h;rw [f2] at e;cases e];exact e⟩
  have hh : RH B G' (h ++ [AObj.tail 0 k e]) w:=by
    refine hr.allocObj _ hle rfl rfl rfl (Nat.le_refl _) (Nat.le_refl _) (fun _ _=>rfl) (fun _ _ _=>rfl) hr.imm (fun r hne=>⟨rfl,fun n=>if_neg fun h=>hne h.1⟩) ?_ (fun b hb=>?_)
    · exact ⟨fun j hj=>by show (if h.length = h.length ∧ j = 0 then _ else _) = none;rw [if_neg fun h=>by omega];exact f2 j,.inl ⟨rfl,if_pos ⟨rfl,rfl⟩⟩⟩
    · simp only [ownBlk] at hb
      have e1 : G'.tl h.length 0 = some (.slice none 0 0):=if_pos ⟨rfl,rfl⟩
      rw [e1] at hb;cases hb
  have hlt : r < h.length:=(List.getElem?_eq_some_iff.1 hr0).1
  have hr1 : (h ++ [AObj.tail 0 k e])[r]? = some (.cells xs tp):=by rw [List.getElem?_append_left hlt];exact hr0
  obtain ⟨b,c,ty,g1,g2,g3,g4,g5⟩:=hh.obj r _ hr1
  have hc : ConcL G' c (xs.set j (.sl (some h.length) k [])):=⟨by simp [g4.1],fun i v x hv hx=>by
    by_cases e : j = i
    · subst e
      have hjl : j < xs.length:=(List.getElem?_eq_some_iff.1 hj).1
      rw [List.getElem?_set_self hjl] at hx
      cases hx
      have:=g4.2 j v _ hv hj
      rw [conc_sc this]
      exact .slnil fun t e=>by cases e;exact if_pos ⟨rfl,rfl⟩
    · rw [List.getElem?_set_ne e] at hx
      exact g4.2 i v x hv hx⟩
  have hh2:=hh.set (w':=w) (b:=b) (o':=.cells (xs.set j (.sl (some h.length) k [])) tp) hr1 g1 g2 rfl rfl rfl (Nat.le_refl _) rfl (fun _ _=>rfl) (fun i v hv=>by rw [g5 i] at hv;cases hv) ⟨b,c,ty,g1,g2,g3,hc,g5⟩ (fun c hc=>by
    simp only [ownBlk] at hc;rw [g1] at hc;exact (Option.some.inj hc).symm)
  exact ⟨G',hR.step hle hh2⟩
theorem W_adoptC {c : Code} (r j k e : Nat) {xs : List AV} {tp : Option TypeId} (hr0 : h[r]? = some (.cells xs tp)) (hj : xs[j]? = some (.sc (.slice none 0 0)))
    (hk : W P fr N c Q ⟨rg,(h ++ [AObj.tail 0 k e]).set r (.cells (xs.set j (.sl (some h.length) k [])) tp),mk⟩) : W P fr N c Q ⟨rg,h,mk⟩:=by
  intro B G a w hR
  obtain ⟨G',hR'⟩:=hR.adoptC (k:=k) (e:=e) hr0 hj
  exact hk B G' a w hR'
end
section
variable {P : Program} [GlobF P] {ty : TypeId} {pos : String} {af : Array Edge} {dst : Option Nat} {gd : Option (Nat × Bool)} {ρ : Operand → Option AV}
theorem D_slVhM {α : Type} {t e k : Nat} {x z : Operand} {kk' : IntKind} {tok : Option Nat} {l : List α} {f : α → List AV} {j : Int} [hu : Und P t (.slice e)] [hs : Siz P e k] (hx : ρ x = some (.sl tok k (l.map f))) (hz : ρ z = some (.sc (.int kk' j)))
    (h1 : 0 ≤ j) (h2 : j ≤ l.length) : PPOp P { dst:=dst,op:=.slice t x none (some z) none,type:=ty,pos:=pos,after:=af,guard:=gd } ρ (.sl none k ((l.take j.toNat).map f)):=by
  have:=D_slVh (P:=P) (ty:=ty) (pos:=pos) (af:=af) (dst:=dst) (gd:=gd) (t:=t) hx hz h1 (by simpa using h2)
  simpa using this
theorem D_slVlM {α : Type} {t e k : Nat} {x y : Operand} {kk : IntKind} {tok : Option Nat} {l : List α} {f : α → List AV} {i : Int} [hu : Und P t (.slice e)] [hs : Siz P e k] (hx : ρ x = some (.sl tok k (l.map f))) (hy : ρ y = some (.sc (.int kk i)))
    (h0 : 0 ≤ i) (h2 : i ≤ l.length) : PPOp P { dst:=dst,op:=.slice t x (some y) none none,type:=ty,pos:=pos,after:=af,guard:=gd } ρ (.sl none k ((l.drop i.toNat).map f)):=by
  have:=D_slVl (P:=P) (ty:=ty) (pos:=pos) (af:=af) (dst:=dst) (gd:=gd) (t:=t) hx hy h0 (by simpa using h2)
  simpa using this
end
end Go.AL
