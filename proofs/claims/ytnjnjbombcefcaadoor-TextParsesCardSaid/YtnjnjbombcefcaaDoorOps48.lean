/- Rules of the abstract logic: slices whose memory is known, or none, frozen. No condition. -/
import Derived.Test.YtnjnjbombcefcaaDoorOps43
set_option linter.all false
namespace Go.AL
def SlK (k e : Nat) (els : List (List AV)) (hv : AV) (h : List AObj) : Prop :=
  (hv = .sc (.slice none 0 0) ∧ els = []) ∨ ∃ r cap sp,hv = .mc r els.length cap ∧ els.length ≤ cap ∧ cap ≤ maxLen ∧ h[r]? = some (.cells (els.flatten ++ sp) (some e)) ∧ (els.flatten ++ sp).length = cap * k
def mcP : AV → List Nat
  | .mc r _ _=>[r]
  | _=>[]
theorem SlK.app {k e : Nat} {els : List (List AV)} {hv : AV} {h : List AObj} (hS : SlK k e els hv h) (o : AObj) : SlK k e els hv (h ++ [o]):=by
  rcases hS with h1 | ⟨r,cap,sp,h1,h2,h3,h4,h5⟩
  · exact .inl h1
  · exact .inr ⟨r,cap,sp,h1,h2,h3,get_app h4,h5⟩
theorem SlK.set {k e : Nat} {els : List (List AV)} {hv : AV} {h : List AObj} (hS : SlK k e els hv h) {i : Nat} (hi : i ∉ mcP hv) (o : AObj) : SlK k e els hv (h.set i o):=by
  rcases hS with h1 | ⟨r,cap,sp,h1,h2,h3,h4,h5⟩
  · exact .inl h1
  · refine .inr ⟨r,cap,sp,h1,h2,h3,get_ne (fun e=>hi ?_) h4,h5⟩
    rw [h1,mcP];exact e ▸ .head _
theorem SlK.frame {k e : Nat} {els : List (List AV)} {hv : AV} {h h' : List AObj} (hS : SlK k e els hv h) (hf : ∀ i,i ∈ mcP hv → h'[i]? = h[i]?) : SlK k e els hv h':=by
  rcases hS with h1 | ⟨r,cap,sp,h1,h2,h3,h4,h5⟩
  · exact .inl h1
  · exact .inr ⟨r,cap,sp,h1,h2,h3,(hf r (by rw [h1,mcP];exact .head _)).trans h4,h5⟩
theorem SlK.lt {k e : Nat} {els : List (List AV)} {hv : AV} {h : List AObj} (hS : SlK k e els hv h) {i : Nat} (hi : i ∈ mcP hv) : ∃ xs,h[i]? = some (.cells xs (some e)):=by
  rcases hS with ⟨h1,_⟩ | ⟨r,cap,sp,h1,h2,h3,h4,h5⟩
  · rw [h1] at hi;cases hi
  · rw [h1,mcP,List.mem_singleton] at hi
    exact ⟨_,hi ▸ h4⟩
theorem ne_ty {h : List AObj} {p q : Nat} {xs ys : List AV} {e : TypeId} (h1 : h[q]? = some (.cells xs (some e))) (h2 : h[p]? = some (.cells ys)) : q ≠ p:=fun e=>by
  subst e;rw [h1] at h2;cases h2
section
variable {P : Program} [GlobF P] {fr : Option Nat} {N : Nat} {Q : Exit → AS → Prop} {ops : Array Oper} {rg : List (Nat × AV)} {h : List AObj} {mk : Mk}
theorem D_litA {ty : TypeId} {pos : String} {af : Array Edge} {dst : Option Nat} {gd : Option (Nat × Bool)} {ρ : Operand → Option AV} {t e k : Nat} {vs : Array Value} {z : Value} [hu : Und P t (.slice e)] [hs : Siz P e k] [hz : Zer P e z] (hk : Nat.beq (vs.toList.map AV.sc).length k = true) (hm : Nat.ble (1 * k) 1000 = true) :
    PPOp P { dst:=dst,op:=.buildSlice t 1 #[(0,.const (.agg vs))],type:=ty,pos:=pos,after:=af,guard:=gd } ρ (.sl none k [vs.toList.map AV.sc]):=fun hp fr B G a w hR hE =>
  D_lit (ρ:=fun _=>some (.ag (vs.toList.map AV.sc))) (ps:=[(0,.const (.agg vs))]) (els:=[vs.toList.map AV.sc]) rfl rfl (by simp only [List.all_cons,hk,List.all_nil,Bool.and_true]) hm hp fr B G a w hR fun x hx u hu=>by
    have e1 : x = .const (.agg vs):=by
      simp only [Op.operands] at hx
      simpa using hx
    cases hu
    subst e1
    show Conc G (.agg vs) _
    have:=Conc.ag (G:=G) (cs:=vs.toList) (xs:=vs.toList.map AV.sc) (by simp) (fun i v x hv hx=>by
      rw [List.getElem?_map,hv] at hx;simp at hx;subst hx;exact .sc v)
    simpa using this
section
variable {rest : List Oper} {acc : List Sl} {K : AS → Prop} {s : AS} {ty : TypeId} {pos : String} {af : Array Edge} {dst : Option Nat} {gd : Option (Nat × Bool)}
theorem idApD {c : Call} (hc : c.callee = .builtin .append) (hw : WD P N ops ({ dst:=dst,op:=.call c,type:=ty,pos:=pos,after:=af,guard:=gd } :: rest) acc K s) : WD P N ops ({ dst:=dst,op:=.call c,type:=ty,pos:=pos,after:=af,guard:=gd } :: rest) acc K s:=hw
theorem idLdD {t : TypeId} {x : Operand} (hw : WD P N ops ({ dst:=dst,op:=.load t x,type:=ty,pos:=pos,after:=af,guard:=gd } :: rest) acc K s) : WD P N ops ({ dst:=dst,op:=.load t x,type:=ty,pos:=pos,after:=af,guard:=gd } :: rest) acc K s:=hw
theorem idStD {t : TypeId} {x y : Operand} (hw : WD P N ops ({ dst:=dst,op:=.store t x y,type:=ty,pos:=pos,after:=af,guard:=gd } :: rest) acc K s) : WD P N ops ({ dst:=dst,op:=.store t x y,type:=ty,pos:=pos,after:=af,guard:=gd } :: rest) acc K s:=hw
theorem idStL {t : TypeId} {x y : Operand} {l : List Oper} (hw : WL P fr N ops ({ dst:=dst,op:=.store t x y,type:=ty,pos:=pos,after:=af,guard:=gd } :: l) Q s) : WL P fr N ops ({ dst:=dst,op:=.store t x y,type:=ty,pos:=pos,after:=af,guard:=gd } :: l) Q s:=hw
theorem idLdL {t : TypeId} {x : Operand} {l : List Oper} (hw : WL P fr N ops ({ dst:=dst,op:=.load t x,type:=ty,pos:=pos,after:=af,guard:=gd } :: l) Q s) : WL P fr N ops ({ dst:=dst,op:=.load t x,type:=ty,pos:=pos,after:=af,guard:=gd } :: l) Q s:=hw
end
theorem W_gen {c : Code} (hk : ∀ K,K = h → W P fr N c Q ⟨rg,K,mk⟩) : W P fr N c Q ⟨rg,h,mk⟩:=hk h rfl
theorem WL_wkn {l : List Oper} (t : Nat) {v v' : AV} (ht : lookO rg t = some v) (hw : Wkn v v') (hk : WL P fr N ops l Q ⟨(t,v') :: rg,h,mk⟩) : WL P fr N ops l Q ⟨rg,h,mk⟩:=fun B G a w hR=>hk B G a w ⟨hR.heap,hR.size,fun u=>by
  simp only [look]
  cases hq : Nat.beq t u with
  | true =>
    have : t = u:=Nat.eq_of_beq_eq_true hq
    subst this
    have h1:=hR.regs t
    rw [show look rg t = _ from lookO_eq ht] at h1
    exact hw _ _ h1
  | false=>exact hR.regs u,hR.defers,hR.own⟩
theorem WL_frzK {l : List Oper} (t e : Nat) {cv : AV} {els : List (List AV)} (ht : lookO rg t = some cv) (hS : SlK 8 e els cv h) (hw : ∀ x,x ∈ els → x.length = 8)
    (hk : ∀ h',h'.length = h.length → (∀ i,i ∉ mcP cv → h'[i]? = h[i]?) → WL P fr N ops l Q ⟨(t,.sl none 8 els) :: rg,h',mk⟩) : WL P fr N ops l Q ⟨rg,h,mk⟩:=by
  rcases hS with ⟨rfl,rfl⟩ | ⟨r,cap,sp,rfl,h2,h3,h4,h5⟩
  · exact WL_wkn t ht Wkn.nil (hk h rfl fun _ _=>rfl)
  · refine WL_mcmr t ht ?_
    refine WL_untype r h4 ?_
    have h6 : (h.set r (.cells (els.flatten ++ sp)))[r]? = some (.cells (els.flatten ++ sp)):=get_set h4
    refine WL_frz t r 8 (els:=els) (sp:=sp) (rg:=(t,.mr r 0 els.length) :: rg) h6 (by simp [lookO]) (Nat.le_refl _) hw ?_
    rw [List.take_length]
    have hk2:=hk ((h.set r (.cells (els.flatten ++ sp))).set r .dead) (by simp) (fun i hi=>by
      have hne : r ≠ i:=fun e=>hi (by rw [mcP,e];exact .head _)
      rw [List.getElem?_set_ne hne,List.getElem?_set_ne hne])
    intro B G a w hR
    refine hk2 B G a w ⟨hR.heap,hR.size,fun u=>?_,hR.defers,hR.own⟩
    have h1:=hR.regs u
    simp only [look] at h1 ⊢
    cases hq : Nat.beq t u with
    | true=>rw [hq] at h1;exact h1
    | false=>rw [hq] at h1;exact h1
end
end Go.AL
