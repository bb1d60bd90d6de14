/- The rules of the abstract logic, fifteenth part: scopes; boxes of values; opaque heaps; objects let go where a call ends. No condition. -/
import Derived.Test.YthofnclbbjemfaaDoorOps5
import Derived.Deep.OwnRows
set_option linter.all false
namespace Go.AL
theorem stepR_scope {P : Program} {b : Frame} {a : Act} {k : List Item} {cs : List Frame} {w : World} {c : Code} : step P (lone (b.atR a (.code (.scope c) :: k)) cs w) = .next (lone (b.atR a (.code c :: .inScope c :: k)) cs w) :=
  step_lone_go (by simp [stepG,stepG.exec,Frame.atR])
theorem stepR_inScope {P : Program} {b : Frame} {a : Act} {k : List Item} {cs : List Frame} {w : World} {c : Code} : step P (lone (b.atR a (.inScope c :: k)) cs w) = .next (lone (b.atR a k) cs w) :=
  step_lone_go (by simp [stepG,stepG.exec,Frame.atR])
def scp (Q : Exit → AS → Prop) : Exit → AS → Prop
  | .goto _,_=>False
  | e,s=>Q e s
def Exit.noJump (Q : Exit → Act → World → Prop) : Exit → Act → World → Prop
  | .goto _,_,_=>False
  | e,a,w=>Q e a w
theorem wpIn_scope {F : Fence} {n : Nat} {P : Program} {Q : Exit → Act → World → Prop} {a : Act} {w : World} {c : Code} (h : c.wpIn F n P (Exit.noJump Q) a w) : (Code.scope c).wpIn F n P Q a w:=by
  intro b k cs hro hb hr
  have h0 : (lone (b.atR a (.code (.scope c) :: k)) cs w).fenced P F:=fenced_calm hb hr rfl
  obtain ⟨e,a₁,w₁,hq,harr⟩:=h b (.inScope c :: k) cs hro hb hr
  cases e with
  | normal=>exact ⟨.normal,a₁,w₁,hq,.head h0 stepR_scope (StepsIn.trans harr (.one (fenced_calm hb hr rfl) stepR_inScope))⟩
  | exit id =>
    have hx : exitTo id (.inScope c :: k) = exitTo id k:=by simp [exitTo]
    exact ⟨.exit id,a₁,w₁,hq,fun k' hk=>.head h0 stepR_scope (harr.1 k' (by rw [hx];exact hk)),
      fun hr' hk=>let ⟨k₁,h1,h2⟩:=harr.2 hr' (by rw [hx];exact hk);⟨k₁,h1,.head h0 stepR_scope h2⟩⟩
  | goto l=>exact hq.elim
  | ret=>exact ⟨_,a₁,w₁,hq,.of_steps (.one h0 stepR_scope) harr⟩
  | panic ch=>exact ⟨_,a₁,w₁,hq,.of_steps (.one h0 stepR_scope) harr⟩
  | outgrown=>exact ⟨_,a₁,w₁,hq,.of_steps (.one h0 stepR_scope) harr⟩
section
variable {P : Program} [GlobF P] {fr : Option Nat} {N : Nat} {Q : Exit → AS → Prop} {s : AS}
theorem W_scope {c : Code} (h : W P fr N c (scp Q) s) : W P fr N (.scope c) Q s:=by
  intro B G a w hr
  refine wpIn_scope (wpIn_mono (h B G a w hr) ?_)
  rintro e a' w' ⟨G',s',hr',hq⟩
  cases e with
  | goto l=>exact hq.elim
  | normal=>exact ⟨G',s',hr',hq⟩
  | exit i=>exact ⟨G',s',hr',hq⟩
  | ret=>exact ⟨G',s',hr',hq⟩
  | panic c=>exact ⟨G',s',hr',hq⟩
  | outgrown=>exact ⟨G',s',hr',hq⟩
end
section
variable {Q : Exit → AS → Prop} {s : AS}
theorem sn (h : Q .normal s) : scp Q .normal s:=h
theorem sr (h : Q .ret s) : scp Q .ret s:=h
theorem se {i : Nat} (h : Q (.exit i) s) : scp Q (.exit i) s:=h
end
section
variable {P : Program} [GlobF P] {fr : Option Nat} {N : Nat} {Q : Exit → AS → Prop} {ops : Array Oper} {rest : List Oper} {rg : List (Nat × AV)} {h : List AObj} {mk : Mk} {ty : TypeId} {pos : String} {af : Array Edge} {d : Nat}
theorem m_box {t : TypeId} {x : Operand} {u : AV} {cs : List AV} (hx : evR rg x = some u) (hu : cellsO u = some cs) (hd : Nat.blt d N = true)
    (hk : WL P fr N ops rest Q ⟨(d,.bp h.length 0) :: rg,h ++ [.cells cs],mk⟩) :
    WL P fr N ops ({ dst:=some d,op:=.box t x,type:=ty,pos:=pos,after:=af,guard:=none } :: rest) Q ⟨rg,h,mk⟩ :=
  WL_op (s:=⟨rg,h,mk⟩) hd (by simp) (fun B G a w hr=>by
    have ex:=hr.ev x
    rw [show (⟨rg,h,mk⟩ : AS).ev x = _ from AS.evO_eq ((evR_eq rg h mk) ▸ hx)] at ex
    have hcs:=cellsO_conc ex hu
    obtain ⟨hle,hr'⟩:=hr.heap.allocBox (a.eval x).cells.toList cs t hcs 0
    have e : (a.eval x).cells.toList.toArray = (a.eval x).cells:=Array.toArray_toList
    rw [e] at hr'
    exact ⟨.pointer (some ⟨w.heap.size,0,none⟩),_,_,rfl,hle,hr',.bp (if_pos rfl)⟩) hk
end
section
variable {P : Program} [GlobF P] {ty : TypeId} {pos : String} {af : Array Edge} {dst : Option Nat} {gd : Option (Nat × Bool)} {ρ : Operand → Option AV}
end
end Go.AL

namespace Go.AL
inductive BdA (n : Nat) : AV → Prop
  | any : BdA n .any
  | sc (v : Value) : BdA n (.sc v)
  | sl {tok : Option Nat} {k : Nat} {els : List (List AV)} (ht : ∀ t,tok = some t → t < n) (h : ∀ e,e ∈ els → ∀ x,x ∈ e → BdA n x) : BdA n (.sl tok k els)
  | ep {cells : List AV} (h : ∀ x,x ∈ cells → BdA n x) : BdA n (.ep cells)
  | bp {r off : Nat} (h : r < n) : BdA n (.bp r off)
  | mr {r o m : Nat} (h : r < n) : BdA n (.mr r o m)
  | fn {f : Fn} {xs ys : List AV} (h1 : ∀ x,x ∈ xs → BdA n x) (h2 : ∀ x,x ∈ ys → BdA n x) : BdA n (.fn f xs ys)
  | ag {cells : List AV} (h : ∀ x,x ∈ cells → BdA n x) : BdA n (.ag cells)
  | tu {vs : List AV} (h : ∀ x,x ∈ vs → BdA n x) : BdA n (.tu vs)
def BdO (n : Nat) : AObj → Prop
  | .cells xs _=>∀ x,x ∈ xs → BdA n x
  | .row _ _ els=>∀ e,e ∈ els → ∀ x,x ∈ e → BdA n x
  | .loopr _ _ _ _ _ rg _ _=>∀ t,BdA n (look rg t)
  | _=>True
theorem BdA.mono {n m : Nat} (hnm : n ≤ m) {x : AV} (h : BdA n x) : BdA m x:=by
  induction h with
  | any=>exact .any
  | sc v=>exact .sc v
  | sl ht h ih=>exact .sl (fun t e=>Nat.lt_of_lt_of_le (ht t e) hnm) ih
  | ep h ih=>exact .ep ih
  | bp h=>exact .bp (Nat.lt_of_lt_of_le h hnm)
  | mr h=>exact .mr (Nat.lt_of_lt_of_le h hnm)
  | fn h1 h2 i1 i2=>exact .fn i1 i2
  | ag h ih=>exact .ag ih
  | tu h ih=>exact .tu ih
theorem BdO.mono {n m : Nat} (hnm : n ≤ m) {o : AObj} (h : BdO n o) : BdO m o:=by
  cases o with
  | cells xs=>exact fun x hx=>(h x hx).mono hnm
  | row k e els=>exact fun e he x hx=>(h e he x hx).mono hnm
  | loopr l N ps assign body rg st pend=>exact fun t=>(h t).mono hnm
  | _=>trivial
section
variable {P : Program} [GlobF P]
end
theorem get_last {α : Type} {h : List α} {x : α} : (h ++ [x])[h.length]? = some x:=by simp
theorem get_app {α : Type} {h l : List α} {i : Nat} {x : α} (hi : h[i]? = some x) : (h ++ l)[i]? = some x:=by rw [List.getElem?_append_left (List.getElem?_eq_some_iff.1 hi).1];exact hi
theorem get_ne {α : Type} {h : List α} {i j : Nat} {x y : α} (hne : j ≠ i) (hi : h[i]? = some x) : (h.set j y)[i]? = some x:=by rw [List.getElem?_set_ne hne];exact hi
end Go.AL

namespace Go.AL
theorem get_last2 {α : Type} {h : List α} {x : α} {i : Nat} (hi : h.length = i) : (h ++ [x])[i]? = some x:=by subst hi;simp
section
variable {P : Program} [GlobF P] {ty : TypeId} {pos : String} {af : Array Edge} {dst : Option Nat} {gd : Option (Nat × Bool)} {ρ : Operand → Option AV}
end
end Go.AL

namespace Go.AL
inductive LK where
  | b
  | i (k : IntKind)
  | s
def LK.ok : LK → Value → Bool
  | .b,.bool _=>true
  | .i k,.int k' _=>decide (k = k')
  | .s,.string _=>true
  | _,_=>false
def lksB : List LK → List Value → Bool
  | [],[]=>true
  | l :: ls,v :: vs=>l.ok v && lksB ls vs
  | _,_=>false
open Classical in
noncomputable def lEq (a b : List Value) : Bool:=decide (a = b)
theorem lEq_t (a b : List Value) : (lEq a b = true) = (a = b):=by unfold lEq;simp
theorem lEq_f (a b : List Value) : (lEq a b = false) = (a ≠ b):=by unfold lEq;simp
attribute [irreducible] lEq
theorem lEq_iff {x : Bool} {a b : List Value} (h : x = true ↔ a = b) : x = lEq a b:=by
  cases hx : lEq a b
  · rw [lEq_f] at hx;cases x
    · rfl
    · exact absurd (h.1 rfl) hx
  · rw [lEq_t] at hx;exact h.2 hx
theorem lksB_len : ∀ {L : List LK} {vs : List Value},lksB L vs = true → vs.length = L.length
  | [],[],_=>rfl
  | l :: ls,v :: vs,h=>by simp only [lksB,Bool.and_eq_true] at h;simp [lksB_len h.2]
  | [],_ :: _,h=>by simp [lksB] at h
  | _ :: _,[],h=>by simp [lksB] at h
theorem lksB_app : ∀ {L M : List LK} {vs : List Value},lksB (L ++ M) vs = true → lksB L (vs.take L.length) = true ∧ lksB M (vs.drop L.length) = true
  | [],M,vs,h=>by simpa [lksB] using h
  | l :: ls,M,[],h=>by simp [lksB] at h
  | l :: ls,M,v :: vs,h=>by
    simp only [List.cons_append,lksB,Bool.and_eq_true] at h
    have:=lksB_app h.2
    simp only [List.length_cons,List.take_succ_cons,List.drop_succ_cons,lksB,Bool.and_eq_true]
    exact ⟨⟨h.1,this.1⟩,this.2⟩
section
variable {P : Program}
class EqF (P : Program) (t : TypeId) (L : outParam (List LK)) (m : outParam Nat) : Prop where
  h : ∀ (w : World) (xs ys : List Value) (off : Nat),lksB L ((xs.drop off).take L.length) = true → lksB L ((ys.drop off).take L.length) = true →
    ∃ a b,(part t xs.toArray off).run P w = .ok a w ∧ (part t ys.toArray off).run P w = .ok b w ∧ ∀ d,m ≤ d → (Op.equalIn d t a b).run P w = .ok (lEq ((xs.drop off).take L.length) ((ys.drop off).take L.length)) w
inductive FldEq (P : Program) (m : Nat) : List Field → Nat → List LK → Prop
  | nil (off : Nat) : FldEq P m [] off []
  | cons {f : Field} {fs : List Field} {off m' : Nat} {L M : List LK} (hn : f.name ≠ "_") (ho : f.offset = off) (he : EqF P f.type L m') (hm : m' ≤ m) (h : FldEq P m fs (off + L.length) M) : FldEq P m (f :: fs) off (L ++ M)
theorem FldEq.run {m : Nat} : ∀ {fs : List Field} {off : Nat} {L : List LK},FldEq P m fs off L → ∀ (w : World) (xs ys : List Value),lksB L (xs.drop off) = true → lksB L (ys.drop off) = true → ∀ d,m ≤ d →
    (Op.eqFields d xs.toArray ys.toArray fs).run P w = .ok (lEq (xs.drop off) (ys.drop off)) w:=by
  intro fs off L h
  induction h with
  | nil off =>
    intro w xs ys hx hy d hd
    have e : ∀ {l : List Value},lksB [] l = true → l = []:=fun {l} h=>by cases l <;> simp [lksB] at h ⊢
    rw [e hx,e hy]
    have : lEq [] [] = true:=by rw [lEq_t]
    rw [this];rfl
  | @cons f fs off m' L M hn ho he hm h ih =>
    intro w xs ys hx hy d hd
    obtain ⟨x1,x2⟩:=lksB_app hx
    obtain ⟨y1,y2⟩:=lksB_app hy
    obtain ⟨a,b,p1,p2,p3⟩:=he.h w xs ys off x1 y1
    have p3':=p3 d (Nat.le_trans hm hd)
    rw [List.drop_drop] at x2 y2
    have ih':=ih w xs ys x2 y2 d hd
    have split : ∀ (l : List Value),l.drop off = (l.drop off).take L.length ++ l.drop (off + L.length):=fun l=>by
      rw [← List.drop_drop,List.take_append_drop]
    have hl : ((xs.drop off).take L.length).length = ((ys.drop off).take L.length).length:=by rw [lksB_len x1,lksB_len y1]
    have key : lEq (xs.drop off) (ys.drop off) = (lEq ((xs.drop off).take L.length) ((ys.drop off).take L.length) && lEq (xs.drop (off + L.length)) (ys.drop (off + L.length))):=by
      refine (lEq_iff ?_).symm
      rw [Bool.and_eq_true,lEq_t,lEq_t]
      constructor
      · rintro ⟨h1,h2⟩;rw [split xs,split ys,h1,h2]
      · intro h
        rw [split xs,split ys] at h
        exact List.append_inj h hl
    rw [key]
    simp only [Op.eqFields,hn,ho,ne_eq,not_false_eq_true,if_true,Sem.run_bind,p1,p2,p3',Result.andThen_ok]
    cases lEq ((xs.drop off).take L.length) ((ys.drop off).take L.length)
    · simp
    · simpa using ih'
end
class EqG (P : Program) (t : TypeId) : Prop where
  h : P.eqGuardType P.depth t = false
section
variable {P : Program} [GlobF P] {ty : TypeId} {pos : String} {af : Array Edge} {dst : Option Nat} {gd : Option (Nat × Bool)} {ρ : Operand → Option AV}
end
instance (a b : List Value) : BP (lEq a b) (a = b) (a ≠ b):=⟨fun h=>by rwa [lEq_t] at h,fun h=>by rwa [lEq_f] at h⟩
end Go.AL
