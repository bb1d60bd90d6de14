/- The rules of the abstract logic, fourth part: a region whose order is open, of operations that only compute: walked in the order of its text. No condition. -/
import Derived.Test.YtnjnjbombcefcaaDoorBase
import Derived.IntWalk
import Derived.Lib.Bytealg
import Derived.Laws.Externs
set_option linter.all false
namespace Go.AL
structure Eqv (s s' : AS) : Prop where
  regs : ∀ t,look s.regs t = look s'.regs t
  heap : s.heap = s'.heap
  marks : s.marks = s'.marks
theorem Eqv.refl (s : AS) : Eqv s s:=⟨fun _=>rfl,rfl,rfl⟩
theorem Eqv.symm {s s' : AS} (h : Eqv s s') : Eqv s' s:=⟨fun t=>(h.regs t).symm,h.heap.symm,h.marks.symm⟩
theorem Eqv.trans {a b c : AS} (h : Eqv a b) (h' : Eqv b c) : Eqv a c:=⟨fun t=>(h.regs t).trans (h'.regs t),h.heap.trans h'.heap,h.marks.trans h'.marks⟩
theorem Eqv.put {s s' : AS} (h : Eqv s s') (d : Nat) (v : AV) : Eqv (s.put d v) (s'.put d v):=⟨fun t=>by simp only [AS.put,look];cases Nat.beq d t;exact h.regs t;rfl,h.heap,h.marks⟩
theorem Eqv.evO {s s' : AS} (h : Eqv s s') : s.evO = s'.evO:=funext fun x=>by
  rw [evO_some,evO_some];cases x <;> simp only [AS.ev];rw [h.regs]
theorem Eqv.R {P : Program} [GlobF P] {s s' : AS} (h : Eqv s s') {B : Base P} {N : Nat} {G : Gh} {a : Act} {w : World} (hr : R B N G s a w) : R B N G s' a w :=
  ⟨h.heap ▸ hr.heap,hr.size,fun t=>h.regs t ▸ hr.regs t,h.marks ▸ hr.defers,h.marks ▸ hr.own⟩
section
variable {P : Program} [GlobF P] {fr : Option Nat} {N : Nat} {ops : Array Oper}
abbrev Sl:=List Nat × Option Nat
def appU (u : Option (Nat × AObj)) (h : List AObj) : List AObj:=match u with
  | none=>h
  | some (r,o)=>h.set r o
def AS.eff (s : AS) (d : Option Nat) (v : AV) (u : Option (Nat × AObj)) : AS:=match d with
  | none=>{ s with heap:=appU u s.heap }
  | some d=>(({ s with heap:=appU u s.heap } : AS)).put d v
theorem appU_length (u : Option (Nat × AObj)) (h : List AObj) : (appU u h).length = h.length:=by
  cases u <;> simp [appU]
def POpS (P : Program) [GlobF P] (o : Oper) (ρ : Operand → Option AV) (hp : List AObj) (rs : List Nat) (v : AV) (u : Option (Nat × AObj)) : Prop :=
  ∀ (fr : Option Nat) (B : Base P) (G : Gh) (a : Act) (w : World) (h : List AObj),h.length = hp.length → (∀ r,r ∈ rs → h[r]? = hp[r]?) → RH B G h w → (∀ x,x ∈ o.op.operands.toList → ∀ u,ρ x = some u → Conc G (a.eval x) u) →
    o.wpIn (fence fr) 0 P a w (fun a' w'=>∃ r G',a' = a.put o.dst r ∧ G.le G' ∧ RH B G' (appU u h) w' ∧ Conc G' r v) (fun _ _ _=>False)
theorem POpS.of {o : Oper} {ρ : Operand → Option AV} {hp : List AObj} {v : AV} (h : ∀ hp',POp P o ρ hp' v) : POpS P o ρ hp [] v none :=
  fun fr B G a w h' _ _ hr hE=>h h' fr B G a w hr hE
def OpOK (P : Program) [GlobF P] (ops : Array Oper) (o : Oper) (s : AS) (rs : List Nat) (v : AV) (u : Option (Nat × AObj)) : Prop :=
  (o.guard = none ∧ POpS P o s.evO s.heap rs v u) ∨
  (∃ j want t b,o.guard = some (j,want) ∧ gdst ops j = some t ∧ look s.regs t = .sc (.bool b) ∧ ((b = want ∧ POpS P o s.evO s.heap rs v u) ∨ (b ≠ want ∧ v = .sc undef ∧ u = none))) ∨
  (∃ j want t,o.guard = some (j,want) ∧ gdst ops j = some t ∧ look s.regs t = .sc undef ∧ v = .sc undef ∧ u = none)
def SlOK (s : AS) (rs : List Nat) (u : Option (Nat × AObj)) : Prop:=match u with
  | none=>True
  | some (r,_)=>r ∈ rs ∧ r < s.heap.length
def masks : List Oper → List Nat → List Nat
  | [],acc=>acc
  | o :: l,acc=>masks l (acc ++ [o.after.foldl (fun m e=>if Region.binds .any e then m ||| 2 ^ e.on ||| acc.getD e.on 0 else m) 0])
def temps (xs : Array Operand) : List Nat:=xs.toList.filterMap fun | .tmp t=>some t|_=>none
def looks (ops : Array Oper) (o : Oper) : List Nat:=temps o.op.operands ++ (match o.guard with|some (j,_)=>(gdst ops j).toList|none=>[])
def confl (l : List Oper) (sl : List Sl) (i j : Nat) : Bool:=match l[i]?,l[j]? with
  | some o,some p=>(match p.dst with
      | some d=>(looks l.toArray o).contains d || o.dst == some d
      | none=>false) ||
    (match sl[j]? with
      | some (_,some r)=>(match sl[i]? with
        | some (rs,_)=>rs.contains r
        | none=>true)
      | _=>false)
  | _,_=>false
def ordOK (ms : List Nat) (l : List Oper) (sl : List Sl) : Bool :=
  Nat.beq sl.length l.length && (List.range l.length).all fun i=>match l[i]? with
    | some o=>o.after.all (fun e=>!Region.binds .any e || Nat.blt e.on i) &&
      (List.range l.length).all fun j=>(i == j) || (if confl l sl i j then (ms.getD i 0).testBit j || (ms.getD j 0).testBit i else true)
    | none=>true
def drawOK (l : List Oper) (sl : List Sl) : Bool:=ordOK (masks l []) l sl
def WD (P : Program) [GlobF P] (N : Nat) (ops : Array Oper) : List Oper → List Sl → (AS → Prop) → AS → Prop
  | [],acc,K,s=>drawOK ops.toList acc.reverse = true ∧ ∃ s',Eqv s s' ∧ K s'
  | o :: l,acc,K,s=>∃ d rs v u,o.dst = d ∧ (∀ d',d = some d' → d' < N) ∧ SlOK s rs u ∧ OpOK P ops o s rs v u ∧ WD P N ops l ((rs,u.map (·.1)) :: acc) K (s.eff d v u)
theorem Eqv.eff {s s' : AS} (h : Eqv s s') (d : Option Nat) (v : AV) (u : Option (Nat × AObj)) : Eqv (s.eff d v u) (s'.eff d v u):=by
  cases d with
  | none=>exact ⟨h.regs,by simp only [AS.eff];rw [h.heap],h.marks⟩
  | some d=>exact Eqv.put (s:={ s with heap:=appU u s.heap }) (s':={ s' with heap:=appU u s'.heap }) ⟨h.regs,by show appU u s.heap = appU u s'.heap;rw [h.heap],h.marks⟩ d v
theorem OpOK.congr {o : Oper} {s s' : AS} {rs : List Nat} {v : AV} {u : Option (Nat × AObj)} (he : Eqv s s') (h : OpOK P ops o s rs v u) : OpOK P ops o s' rs v u:=by
  rcases h with ⟨h1,h2⟩ | ⟨j,want,t,b,h1,h2,h3,h4⟩ | ⟨j,want,t,h1,h2,h3,h4⟩
  · exact .inl ⟨h1,he.evO ▸ he.heap ▸ h2⟩
  · exact .inr (.inl ⟨j,want,t,b,h1,h2,(he.regs t) ▸ h3,h4.imp (fun h=>⟨h.1,he.evO ▸ he.heap ▸ h.2⟩) id⟩)
  · exact .inr (.inr ⟨j,want,t,h1,h2,(he.regs t) ▸ h3,h4⟩)
theorem WD.congr : ∀ {l : List Oper} {acc : List Sl} {K : AS → Prop} {s s' : AS},Eqv s s' → WD P N ops l acc K s → WD P N ops l acc K s'
  | [],_,_,_,_,he,⟨h0,s1,h1,h2⟩=>⟨h0,s1,he.symm.trans h1,h2⟩
  | _ :: _,_,_,_,_,he,⟨d,rs,v,u,h1,h2,hs,h3,h4⟩=>⟨d,rs,v,u,h1,h2,by
      revert hs;unfold SlOK;cases u <;> simp only [he.heap];exact id;exact id,h3.congr he,h4.congr (he.eff d v u)⟩
variable {K : AS → Prop} {s : AS} {rest : List Oper} {op : Op} {ty : TypeId} {pos : String} {af : Array Edge} {d : Nat} {v : AV} {acc : List Sl}
theorem WD_nil (hok : drawOK ops.toList acc.reverse = true) (h : K s) : WD P N ops [] acc K s:=⟨hok,s,.refl s,h⟩
theorem WD_s {dst : Option Nat} {gd : Option (Nat × Bool)} {rs : List Nat} {u : Option (Nat × AObj)} (hok : OpOK P ops { dst:=dst,op:=op,type:=ty,pos:=pos,after:=af,guard:=gd } s rs v u) (hd : ∀ d',dst = some d' → d' < N) (hs : SlOK s rs u)
    (h : WD P N ops rest ((rs,u.map (·.1)) :: acc) K (s.eff dst v u)) : WD P N ops ({ dst:=dst,op:=op,type:=ty,pos:=pos,after:=af,guard:=gd } :: rest) acc K s:=⟨dst,rs,v,u,rfl,hd,hs,hok,h⟩
def stS (ds : Nat → Option Nat) (vs : Nat → AV) (us : Nat → Option (Nat × AObj)) (S : Nat → Bool) (s : AS) : Nat → AS
  | 0=>s
  | n + 1=>if S n then (stS ds vs us S s n).eff (ds n) (vs n) (us n) else stS ds vs us S s n
def lastW (ds : Nat → Option Nat) (S : Nat → Bool) (t : Nat) : Nat → Option Nat
  | 0=>none
  | n + 1=>if S n && ds n == some t then some n else lastW ds S t n
theorem look_eff (s : AS) (d : Option Nat) (v : AV) (u : Option (Nat × AObj)) (t : Nat) : look (s.eff d v u).regs t = if d == some t then v else look s.regs t:=by
  cases d with
  | none=>simp [AS.eff]
  | some d =>
    simp only [AS.eff,AS.put,look]
    cases hq : Nat.beq d t with
    | true=>have : d = t:=Nat.eq_of_beq_eq_true hq;simp [this]
    | false =>
      have : ¬ d = t:=fun e=>by rw [e] at hq;simp at hq
      simp [this]
theorem heap_eff (s : AS) (d : Option Nat) (v : AV) (u : Option (Nat × AObj)) : (s.eff d v u).heap = appU u s.heap ∧ (s.eff d v u).marks = s.marks:=by
  cases d <;> exact ⟨rfl,rfl⟩
theorem look_stS (ds : Nat → Option Nat) (vs : Nat → AV) (us : Nat → Option (Nat × AObj)) (S : Nat → Bool) (s : AS) (t : Nat) : ∀ n,look (stS ds vs us S s n).regs t = match lastW ds S t n with
    | none=>look s.regs t
    | some i=>vs i
  | 0=>rfl
  | n + 1=>by
    simp only [stS,lastW]
    by_cases hS : S n = true
    · simp only [hS,if_true,Bool.true_and]
      rw [look_eff]
      by_cases hd : (ds n == some t) = true
      · rw [if_pos hd,if_pos hd]
      · rw [if_neg hd,if_neg hd];exact look_stS ds vs us S s t n
    · simp only [hS,Bool.false_and,Bool.false_eq_true,if_false];exact look_stS ds vs us S s t n
def uAt (us : Nat → Option (Nat × AObj)) (i : Nat) : Option AObj:=(us i).map (·.2)
theorem slot_appU (u : Option (Nat × AObj)) (h : List AObj) (r : Nat) (hr : r < h.length) : (appU u h)[r]? = if u.map (·.1) == some r then u.map (·.2) else h[r]?:=by
  cases u with
  | none=>simp [appU]
  | some p =>
    obtain ⟨q,o⟩:=p
    simp only [appU,Option.map_some]
    by_cases e : q = r
    · subst e;simp [hr]
    · simp [e]
theorem stS_len (ds : Nat → Option Nat) (vs : Nat → AV) (us : Nat → Option (Nat × AObj)) (S : Nat → Bool) (s : AS) : ∀ n,(stS ds vs us S s n).heap.length = s.heap.length ∧ (stS ds vs us S s n).marks = s.marks
  | 0=>⟨rfl,rfl⟩
  | n + 1=>by
    simp only [stS];split
    · rw [(heap_eff _ _ _ _).1,(heap_eff _ _ _ _).2,appU_length];exact stS_len ds vs us S s n
    · exact stS_len ds vs us S s n
theorem slot_stS (ds : Nat → Option Nat) (vs : Nat → AV) (us : Nat → Option (Nat × AObj)) (S : Nat → Bool) (s : AS) (r : Nat) (hr : r < s.heap.length) : ∀ n,(stS ds vs us S s n).heap[r]? = match lastW (fun i=>(us i).map (·.1)) S r n with
    | none=>s.heap[r]?
    | some i=>uAt us i
  | 0=>rfl
  | n + 1=>by
    simp only [stS,lastW]
    by_cases hS : S n = true
    · simp only [hS,if_true,Bool.true_and]
      rw [(heap_eff _ _ _ _).1,slot_appU _ _ _ (by rw [(stS_len ds vs us S s n).1];exact hr)]
      by_cases hd : ((us n).map (·.1) == some r) = true
      · rw [if_pos hd,if_pos hd];rfl
      · rw [if_neg hd,if_neg hd];exact slot_stS ds vs us S s r hr n
    · simp only [hS,Bool.false_and,Bool.false_eq_true,if_false];exact slot_stS ds vs us S s r hr n
theorem lastW_congr {ds : Nat → Option Nat} {S S' : Nat → Bool} {t : Nat} : ∀ {n : Nat},(∀ j,j < n → ds j = some t → S j = S' j) → lastW ds S t n = lastW ds S' t n
  | 0,_=>rfl
  | n + 1,h=>by
    have ih:=lastW_congr (n:=n) fun j hj=>h j (by omega)
    simp only [lastW,ih]
    by_cases hd : ds n = some t
    · rw [h n (by omega) hd]
    · have hb : (ds n == some t) = false:=by simpa using hd
      simp [hb]
theorem lastW_lt {ds : Nat → Option Nat} {S : Nat → Bool} {t : Nat} : ∀ {n m : Nat},n ≤ m → (∀ j,n ≤ j → j < m → S j = false ∨ ds j ≠ some t) → lastW ds S t m = lastW ds S t n
  | n, 0, h, _ => by have : n = 0:=by omega
                     subst this;rfl
  | n,m + 1,h,hj=>by
    by_cases e : n = m + 1
    · subst e;rfl
    · simp only [lastW]
      have : (S m && ds m == some t) = false:=by
        rcases hj m (by omega) (by omega) with h1|h1
        · simp [h1]
        · have : (ds m == some t) = false:=by simpa using h1
          simp [this]
      rw [this];exact lastW_lt (by omega) fun j h1 h2=>hj j h1 (by omega)
theorem lastW_hit {ds : Nat → Option Nat} {S : Nat → Bool} {t i n : Nat} (hi : i < n) (hS : S i = true) (hd : ds i = some t) (hj : ∀ j,i < j → j < n → S j = false ∨ ds j ≠ some t) : lastW ds S t n = some i:=by
  rw [lastW_lt (n:=i + 1) hi fun j h1 h2=>hj j h1 h2]
  simp [lastW,hS]
  exact fun h=>absurd hd h
def Closed (l : List Oper) (S : Nat → Prop) : Prop:=∀ i o,l[i]? = some o → S i → ∀ e,e ∈ o.after.toList → Region.binds .any e = true → S e.on
theorem mask_bit (acc : List Nat) (j : Nat) : ∀ (es : List Edge) (m0 : Nat),(es.foldl (fun m e=>if Region.binds .any e then m ||| 2 ^ e.on ||| acc.getD e.on 0 else m) m0).testBit j = true →
    m0.testBit j = true ∨ ∃ e,e ∈ es ∧ Region.binds .any e = true ∧ (e.on = j ∨ (acc.getD e.on 0).testBit j = true)
  | [],m0,h=>.inl h
  | e :: es,m0,h=>by
    rw [List.foldl_cons] at h
    rcases mask_bit acc j es _ h with h | ⟨e',h1,h2,h3⟩
    · by_cases hb : Region.binds .any e = true
      · rw [if_pos hb] at h
        simp only [Nat.testBit_or,Nat.testBit_two_pow,Bool.or_eq_true,decide_eq_true_eq] at h
        rcases h with (h|h)|h
        · exact .inl h
        · exact .inr ⟨e,.head _,hb,.inl h⟩
        · exact .inr ⟨e,.head _,hb,.inr h⟩
      · rw [if_neg hb] at h;exact .inl h
    · exact .inr ⟨e',.tail _ h1,h2,h3⟩
theorem masks_ok {L : List Oper} {S : Nat → Prop} (hS : Closed L S) : ∀ (l : List Oper) (acc : List Nat),(∀ k,l[k]? = L[acc.length + k]?) → (∀ i j,(acc.getD i 0).testBit j = true → S i → S j) →
    ∀ i j,((masks l acc).getD i 0).testBit j = true → S i → S j
  | [],acc,_,h=>h
  | o :: l,acc,hl,h=>by
    refine masks_ok hS l _ (fun k=>by have:=hl (k + 1);simpa [Nat.add_assoc,Nat.add_comm 1 k] using this) fun i j hb hi=>?_
    have ho : L[acc.length]? = some o:=by simpa using (hl 0).symm
    rcases Nat.lt_trichotomy i acc.length with hlt|heq|hgt
    · rw [List.getD_eq_getElem?_getD,List.getElem?_append_left hlt,← List.getD_eq_getElem?_getD] at hb
      exact h i j hb hi
    · subst heq
      rw [List.getD_eq_getElem?_getD,List.getElem?_append_right (Nat.le_refl _)] at hb
      simp only [Nat.sub_self,List.getElem?_cons_zero,Option.getD_some] at hb
      rw [← Array.foldl_toList] at hb
      rcases mask_bit acc j _ 0 hb with hz | ⟨e,h1,h2,h3⟩
      · simp at hz
      · have he:=hS _ o ho hi e h1 h2
        rcases h3 with rfl|h3
        · exact he
        · exact h e.on j h3 he
    · rw [List.getD_eq_getElem?_getD,List.getElem?_eq_none (by simp;omega)] at hb
      simp at hb
theorem reach {l : List Oper} {S : Nat → Prop} (hS : Closed l S) {i j : Nat} (h : ((masks l []).getD i 0).testBit j = true) (hi : S i) : S j :=
  masks_ok hS l [] (fun k=>by simp) (fun i j h=>by simp at h) i j h hi
theorem WD_facts : ∀ {l : List Oper} {acc : List Sl} {K : AS → Prop} {s : AS},WD P N ops l acc K s → ∃ (ds : Nat → Option Nat) (rs : Nat → List Nat) (vs : Nat → AV) (us : Nat → Option (Nat × AObj)),
    (∀ i o,l[i]? = some o → o.dst = ds i ∧ (∀ d',ds i = some d' → d' < N) ∧ SlOK (stS ds vs us (fun _=>true) s i) (rs i) (us i) ∧ OpOK P ops o (stS ds vs us (fun _=>true) s i) (rs i) (vs i) (us i)) ∧
    drawOK ops.toList (acc.reverse ++ (List.range l.length).map fun i=>(rs i,(us i).map (·.1))) = true ∧ ∃ s',Eqv (stS ds vs us (fun _=>true) s l.length) s' ∧ K s'
  | [],acc,K,s,⟨h0,s',h1,h2⟩=>⟨fun _=>none,fun _=>[],fun _=>.any,fun _=>none,fun i o h=>by simp at h,by simpa using h0,s',h1,h2⟩
  | o :: l,acc,K,s,⟨d,r,v,u,h1,h2,hs,h3,h4⟩=>by
    obtain ⟨ds,rs,vs,us,hf,hok,s',he,hk⟩:=WD_facts h4
    let ds' : Nat → Option Nat:=fun|0=>d|i + 1=>ds i
    let rs' : Nat → List Nat:=fun|0=>r|i + 1=>rs i
    let vs' : Nat → AV:=fun|0=>v|i + 1=>vs i
    let us' : Nat → Option (Nat × AObj):=fun|0=>u|i + 1=>us i
    have hst : ∀ i,stS ds' vs' us' (fun _=>true) s (i + 1) = stS ds vs us (fun _=>true) (s.eff d v u) i:=fun i=>by
      induction i with
      | zero=>rfl
      | succ i ih=>show (if true = true then (stS ds' vs' us' (fun _=>true) s (i + 1)).eff (ds i) (vs i) (us i) else _) = (if true = true then (stS ds vs us (fun _=>true) (s.eff d v u) i).eff (ds i) (vs i) (us i) else _);simp only [if_true];rw [ih]
    refine ⟨ds',rs',vs',us',fun i o' hi=>?_,?_,s',by rw [List.length_cons,hst];exact he,hk⟩
    · cases i with
      | zero=>simp at hi;subst hi;exact ⟨h1,h2,hs,h3⟩
      | succ i=>have:=hf i o' (by simpa using hi);rw [hst];exact this
    · rw [List.length_cons,List.range_succ_eq_map,List.map_cons,List.map_map]
      rw [List.reverse_cons,List.append_assoc] at hok
      exact hok
theorem POpS.congr {o : Oper} {ρ ρ' : Operand → Option AV} {hp hp' : List AObj} {rs : List Nat} {v : AV} {u : Option (Nat × AObj)} (h : POpS P o ρ hp rs v u) (he : ∀ x,x ∈ o.op.operands.toList → ρ' x = ρ x) (hl : hp'.length = hp.length) (hs : ∀ r,r ∈ rs → hp'[r]? = hp[r]?) : POpS P o ρ' hp' rs v u :=
  fun fr B G a w g hg hgs hr hE=>h fr B G a w g (hg.trans hl) (fun r hr=>(hgs r hr).trans (hs r hr)) hr fun x hx u hu=>hE x hx u ((he x hx).trans hu)
theorem temps_mem {xs : Array Operand} {t : Nat} (h : Operand.tmp t ∈ xs.toList) : t ∈ temps xs:=List.mem_filterMap.2 ⟨_,h,rfl⟩
theorem evO_eq_of {s s' : AS} {x : Operand} (h : ∀ t,x = .tmp t → look s.regs t = look s'.regs t) : s.evO x = s'.evO x:=by
  rw [evO_some,evO_some]
  cases x with
  | tmp t=>simp only [AS.ev];rw [h t rfl]
  | _=>rfl
theorem OpOK.looks {o : Oper} {s s' : AS} {rs : List Nat} {v : AV} {u : Option (Nat × AObj)} (h : OpOK P ops o s rs v u) (hl : ∀ t,t ∈ looks ops o → look s'.regs t = look s.regs t) (hh : s'.heap.length = s.heap.length) (hs : ∀ r,r ∈ rs → s'.heap[r]? = s.heap[r]?) : OpOK P ops o s' rs v u:=by
  have he : ∀ x,x ∈ o.op.operands.toList → s'.evO x = s.evO x:=fun x hx=>evO_eq_of fun t ht=>hl t (List.mem_append_left _ (temps_mem (ht ▸ hx)))
  rcases h with ⟨h1,h2⟩ | ⟨j,want,t,b,h1,h2,h3,h4⟩ | ⟨j,want,t,h1,h2,h3,h4⟩
  · exact .inl ⟨h1,h2.congr he hh hs⟩
  · have ht : look s'.regs t = look s.regs t:=hl t (List.mem_append_right _ (by simp [h1,h2]))
    exact .inr (.inl ⟨j,want,t,b,h1,h2,ht ▸ h3,h4.imp (fun h=>⟨h.1,h.2.congr he hh hs⟩) id⟩)
  · have ht : look s'.regs t = look s.regs t:=hl t (List.mem_append_right _ (by simp [h1,h2]))
    exact .inr (.inr ⟨j,want,t,h1,h2,ht ▸ h3,h4⟩)
class Mix (P : Program) : Prop where
  h : P.follows .mixedOrders = true
theorem heap_ext {h h' : List AObj} (hl : h.length = h'.length) (hs : ∀ r,r < h.length → h[r]? = h'[r]?) : h = h':=by
  apply List.ext_getElem? 
  intro r
  rcases Nat.lt_or_ge r h.length with hr|hr
  · exact hs r hr
  · rw [List.getElem?_eq_none hr,List.getElem?_eq_none (by omega)]
def resv : Nat → List AObj → List AObj
  | 0,h=>h
  | n + 1,h=>resv n (h ++ [.free])
theorem R.resv {B : Base P} {G : Gh} {rg : List (Nat × AV)} {mk : Mk} {a : Act} {w : World} : ∀ (n : Nat) (h : List AObj),R B N G ⟨rg,h,mk⟩ a w → R B N G ⟨rg,resv n h,mk⟩ a w
  | 0,_,hr=>hr
  | n + 1,h,hr=>R.resv n _ (by
    have hh:=hr.heap
    have hcase : ∀ r x,(h ++ [AObj.free])[r]? = some x → (h[r]? = some x) ∨ (r = h.length ∧ x = .free):=fun r x hx=>by
      rcases Nat.lt_or_ge r h.length with hrl|hrl
      · rw [List.getElem?_append_left hrl] at hx;exact .inl hx
      · have : r = h.length:=by
          have:=(List.getElem?_eq_some_iff.1 hx).1
          simp at this;omega
        subst this
        rw [List.getElem?_append_right (by omega)] at hx
        simp at hx;exact .inr ⟨rfl,hx.symm⟩
    refine ⟨⟨hh.base,hh.tape,hh.os,hh.output,hh.drawn,hh.size,hh.out,hh.imm,hh.low,fun r o ho=>?_,fun r r' o o' b h1 h2 h3 h4=>?_,fun r hrl=>hh.fresh r (by simp at hrl;show h.length ≤ r;omega)⟩,hr.size,hr.regs,hr.defers,hr.own⟩
    · rcases hcase r o ho with h1 | ⟨rfl,rfl⟩
      · exact hh.obj r o h1
      · exact hh.fresh _ (Nat.le_refl _)
    · rcases hcase r o h1 with k1 | ⟨rfl,rfl⟩
      · rcases hcase r' o' h2 with k2 | ⟨rfl,rfl⟩
        · exact hh.inj r r' o o' b k1 k2 h3 h4
        · cases h4
      · cases h3)
def laysN : List Oper → Nat
  | []=>0
  | { op:=.alloc _,.. } :: l=>laysN l + 1
  | _ :: l=>laysN l
theorem W_draw {Q : Exit → AS → Prop} {rg : List (Nat × AV)} {hp0 : List AObj} {mk : Mk} [hm : Mix P] {id : Nat} {l : List Oper} (h : WD P N l.toArray l [] (fun s'=>Q .normal s') ⟨rg,resv (laysN l) hp0,mk⟩) : W P fr N (.region id l.toArray true) Q ⟨rg,hp0,mk⟩:=by
  intro B G00 a w hr00
  have hr0:=hr00.resv (laysN l)
  generalize hsdef : (⟨rg,resv (laysN l) hp0,mk⟩ : AS) = s at h hr0
  obtain ⟨ds,rs,vs,us,hf,hok,sn,hsn,hk⟩:=WD_facts h
  simp only [List.reverse_nil,List.nil_append] at hok
  have hsl : ∀ i,i < l.length → ((List.range l.length).map fun i=>(rs i,(us i).map (·.1)))[i]? = some (rs i,(us i).map (·.1)):=fun i hi=>by simp [hi]
  have hnone : ∀ i,l.length ≤ i → l[i]? = none:=fun i h=>List.getElem?_eq_none h
  have hok2:=(Bool.and_eq_true _ _ ▸ hok : _ = true ∧ _ = true).2
  have hedge : ∀ i o,l[i]? = some o → ∀ e,e ∈ o.after.toList → Region.binds .any e = true → e.on < i:=by
    intro i o hi e he hb
    have hlt : i < l.length:=(List.getElem?_eq_some_iff.1 hi).1
    have:=List.all_eq_true.1 hok2 i (List.mem_range.2 hlt)
    simp only [hi,Bool.and_eq_true] at this
    have h1:=Array.all_eq_true_iff_forall_mem.1 this.1 e (Array.mem_toList_iff.1 he)
    simpa [hb,Nat.blt_eq] using h1
  have hord : ∀ i o j p,l[i]? = some o → l[j]? = some p → i ≠ j → ((∃ d,ds j = some d ∧ (d ∈ looks l.toArray o ∨ ds i = some d)) ∨ (∃ r,(us j).map (·.1) = some r ∧ r ∈ rs i)) → ((masks l []).getD i 0).testBit j = true ∨ ((masks l []).getD j 0).testBit i = true:=by
    intro i o j p hi hj hne hd
    have hlt : i < l.length:=(List.getElem?_eq_some_iff.1 hi).1
    have hltj : j < l.length:=(List.getElem?_eq_some_iff.1 hj).1
    have h0:=List.all_eq_true.1 hok2 i (List.mem_range.2 hlt)
    simp only [hi,Bool.and_eq_true] at h0
    have h1:=List.all_eq_true.1 h0.2 j (List.mem_range.2 hltj)
    have hb : (i == j) = false:=by simpa using hne
    simp only [hb,Bool.false_or] at h1
    have hc : confl l ((List.range l.length).map fun i=>(rs i,(us i).map (·.1))) i j = true:=by
      simp only [confl,hi,hj,hsl i hlt,hsl j hltj,(hf j p hj).1,(hf i o hi).1]
      rcases hd with ⟨d,e1,e2⟩ | ⟨r,e1,e2⟩
      · rw [e1]
        rcases e2 with e2|e2
        · simp [e2]
        · simp [e2]
      · rw [e1];simp [e2]
    rw [if_pos hc] at h1
    simpa using h1
  have hle : ∀ k,Closed l (fun j=>j ≤ k):=fun k i o hi hik e he hb=>by have:=hedge i o hi e he hb;omega
  refine wpIn_region_any hm.h ?_
  have hfin : ∀ (listed : Array Bool),(∀ j,j < l.length → listed.getD j false = true) → Eqv (stS ds vs us (fun j=>listed.getD j false) s l.length) sn:=fun listed hall=>by
    refine Eqv.trans ⟨fun t=>?_,?_,?_⟩ hsn
    · rw [look_stS,look_stS,lastW_congr fun j hj _=>by rw [hall j hj]]
    · refine heap_ext (by rw [(stS_len ds vs us _ s _).1,(stS_len ds vs us _ s _).1]) fun r hrl=>?_
      rw [(stS_len ds vs us _ s _).1] at hrl
      rw [slot_stS _ _ _ _ _ _ hrl,slot_stS _ _ _ _ _ _ hrl,lastW_congr fun j hj _=>by rw [hall j hj]]
    · rw [(stS_len ds vs us _ s _).2,(stS_len ds vs us _ s _).2]
  have key : ∀ (fuel : Nat) (listed : Array Bool) (G : Gh) (a : Act) (w : World),listed.size = l.length → Closed l (fun j=>listed.getD j false = true) → (∀ j,l.length ≤ j → listed.getD j false = false) → R B N G (stS ds vs us (fun j=>listed.getD j false) s l.length) a w →
      ((listed.toList.filter (fun b=>!b)).length ≤ fuel) → wpAnyIn (fence fr) 0 P .any l.toArray (Post B N Q) fuel listed a w:=by
    intro fuel
    induction fuel with
    | zero =>
      intro listed G a w hsz hcl hout hr hfu
      have hall : ∀ j,j < l.length → listed.getD j false = true:=fun j hj=>by
        have hz : listed.toList.filter (fun b=>!b) = []:=List.length_eq_zero_iff.1 (Nat.le_zero.1 hfu)
        have:=List.filter_eq_nil_iff.1 hz (listed.getD j false) (by rw [Array.getD_eq_getD_getElem?,Array.getElem?_eq_getElem (by omega)];simp)
        simpa using this
      refine ⟨?_,G,sn,(hfin listed hall).R hr,hk⟩
      apply List.eq_nil_iff_forall_not_mem.2
      intro j hj
      obtain ⟨h1,o,h2,_⟩:=mem_ready.1 hj
      have hj' : j < l.length:=by simpa using (Array.getElem?_eq_some_iff.1 h2).1
      have:=hall j hj'
      rw [Array.getD_eq_getD_getElem?,Array.getElem?_eq_getElem (by omega)] at h1 this
      simp at h1 this;rw [h1] at this;cases this
    | succ fuel ih =>
      intro listed G a w hsz hcl hout hr hfu
      refine ⟨fun hnil=>?_,fun i hi=>?_⟩
      · -- nothing is ready: all are listed
        have hall : ∀ j,j < l.length → listed.getD j false = true:=fun j=>by
          induction j using Nat.strongRecOn with
          | _ j ihj =>
            intro hj
            cases hb : listed.getD j false with
            | true=>rfl
            | false =>
              exfalso
              have : j ∈ Region.ready .any l.toArray listed:=mem_ready.2 ⟨by
                rw [Array.getD_eq_getD_getElem?,Array.getElem?_eq_getElem (by omega)] at hb ⊢;simpa using hb,l[j],by simp [hj],fun e he hbd=>by
                have hlt:=hedge j l[j] (List.getElem?_eq_getElem hj) e (Array.mem_toList_iff.2 he) hbd
                exact ihj e.on hlt (by omega)⟩
              rw [hnil] at this;cases this
        exact ⟨G,sn,(hfin listed hall).R hr,hk⟩
      · obtain ⟨h1,o,h2,hed⟩:=mem_ready.1 hi
        have hio : l[i]? = some o:=by simpa using h2
        have hilt : i < l.length:=(List.getElem?_eq_some_iff.1 hio).1
        have hi0 : listed.getD i false = false:=by
          rw [Array.getD_eq_getD_getElem?,Array.getElem?_eq_getElem (by omega)] at h1 ⊢;simpa using h1
        obtain ⟨hdst,hdN,hso,hop⟩:=hf i o hio
        have hcl' : Closed l (fun j=>j = i ∨ listed.getD j false = true):=fun j p hj hs e he hb=>by
          rcases hs with rfl|hs
          · rw [hio] at hj;cases hj;exact .inr (hed e (Array.mem_toList_iff.1 he) hb)
          · exact .inr (hcl j p hj hs e he hb)
        have hwr : ∀ j,j < l.length → j ≠ i → ((∃ d,ds j = some d ∧ (d ∈ looks l.toArray o ∨ ds i = some d)) ∨ (∃ r,(us j).map (·.1) = some r ∧ r ∈ rs i)) → listed.getD j false = decide (j < i):=fun j hj hne hd=>by
          rcases hord i o j l[j] hio (List.getElem?_eq_getElem hj) (Ne.symm hne) hd with hb|hb
          · have r1:=reach hcl' hb (.inl rfl)
            have r2 : j ≤ i:=reach (hle i) hb (Nat.le_refl i)
            rcases r1 with r1|r1
            · exact absurd r1 hne
            · rw [r1];symm;simp;omega
          · have r2 : i ≤ j:=reach (hle j) hb (Nat.le_refl j)
            have : listed.getD j false = false:=by
              cases hbj : listed.getD j false with
              | false=>rfl
              | true=>have:=reach hcl hb hbj;rw [hi0] at this;cases this
            rw [this];symm;simp;omega
        have hlook : ∀ t,t ∈ looks l.toArray o → look (stS ds vs us (fun j=>listed.getD j false) s l.length).regs t = look (stS ds vs us (fun _=>true) s i).regs t:=fun t ht=>by
          rw [look_stS,look_stS]
          have e1 : lastW ds (fun j=>listed.getD j false) t l.length = lastW ds (fun j=>decide (j < i)) t l.length:=lastW_congr fun j hj hdj=>by
            by_cases e : j = i
            · subst e;rw [hi0];symm;simp
            · exact hwr j hj e (.inl ⟨t,hdj,.inl ht⟩)
          rw [e1,lastW_lt (n:=i) (by omega) fun j hj _=>.inl (by simp;omega),lastW_congr (S':=fun _=>true) fun j hj _=>by simp;omega]
        have hslot : ∀ r,r ∈ rs i → (stS ds vs us (fun j=>listed.getD j false) s l.length).heap[r]? = (stS ds vs us (fun _=>true) s i).heap[r]?:=fun r hr=>by
          rcases Nat.lt_or_ge r s.heap.length with hrl|hrl
          · rw [slot_stS _ _ _ _ _ _ hrl,slot_stS _ _ _ _ _ _ hrl]
            have e1 : lastW (fun i=>(us i).map (·.1)) (fun j=>listed.getD j false) r l.length = lastW (fun i=>(us i).map (·.1)) (fun j=>decide (j < i)) r l.length:=lastW_congr fun j hj hdj=>by
              by_cases e : j = i
              · subst e;rw [hi0];symm;simp
              · exact hwr j hj e (.inr ⟨r,hdj,hr⟩)
            rw [e1,lastW_lt (n:=i) (by omega) fun j hj _=>.inl (by simp;omega),lastW_congr (S':=fun _=>true) fun j hj _=>by simp;omega]
          · rw [List.getElem?_eq_none (by rw [(stS_len ds vs us _ s _).1];exact hrl),List.getElem?_eq_none (by rw [(stS_len ds vs us _ s _).1];exact hrl)]
        have hop' : OpOK P l.toArray o (stS ds vs us (fun j=>listed.getD j false) s l.length) (rs i) (vs i) (us i):=hop.looks hlook (by rw [(stS_len ds vs us _ s _).1,(stS_len ds vs us _ s _).1]) hslot
        have hset : ∀ j,(listed.setIfInBounds i true).getD j false = if j = i then true else listed.getD j false:=fun j=>by
          simp only [Array.getD_eq_getD_getElem?,Array.getElem?_setIfInBounds]
          by_cases e : j = i
          · subst e;have : j < listed.size:=by omega
            simp [this]
          · rw [if_neg e,if_neg (Ne.symm e)]
        have heqv : Eqv ((stS ds vs us (fun j=>listed.getD j false) s l.length).eff (ds i) (vs i) (us i)) (stS ds vs us (fun j=>(listed.setIfInBounds i true).getD j false) s l.length):=by
          refine ⟨fun t=>?_,?_,?_⟩
          · rw [look_eff]
            by_cases e : ds i = some t
            · rw [if_pos (by simp [e]),look_stS,lastW_hit (i:=i) hilt (by rw [hset];simp) e fun j h1 h2=>?_]
              by_cases e2 : ds j = some t
              · left
                rw [hset,if_neg (by omega),hwr j h2 (by omega) (.inl ⟨t,e2,.inr e⟩)];simp;omega
              · exact .inr e2
            · rw [if_neg (by simpa using e),look_stS,look_stS,lastW_congr (S':=fun j=>(listed.setIfInBounds i true).getD j false) fun j hj hdj=>by
                have hji : j ≠ i:=fun e'=>by subst e';exact e hdj
                show listed.getD j false = (listed.setIfInBounds i true).getD j false
                rw [hset,if_neg hji]]
          · rw [(heap_eff _ _ _ _).1]
            refine heap_ext (by rw [appU_length,(stS_len ds vs us _ s _).1,(stS_len ds vs us _ s _).1]) fun r hrl=>?_
            rw [appU_length,(stS_len ds vs us _ s _).1] at hrl
            rw [slot_appU _ _ _ (by rw [(stS_len ds vs us _ s _).1];exact hrl),slot_stS _ _ _ _ _ _ hrl]
            by_cases e : (us i).map (·.1) = some r
            · have hri : r ∈ rs i:=by
                revert hso;unfold SlOK
                cases hu : us i with
                | none=>rw [hu] at e;cases e
                | some p=>rw [hu] at e;simp at e;subst e;exact fun h=>h.1
              rw [if_pos (by simp [e]),slot_stS _ _ _ _ _ _ hrl,lastW_hit (i:=i) hilt (by rw [hset];simp) e fun j h1 h2=>?_]
              · rfl
              by_cases e2 : (us j).map (·.1) = some r
              · left
                rw [hset,if_neg (by omega),hwr j h2 (by omega) (.inr ⟨r,e2,hri⟩)];simp;omega
              · exact .inr e2
            · rw [if_neg (by simpa using e),slot_stS _ _ _ _ _ _ hrl,lastW_congr (S':=fun j=>(listed.setIfInBounds i true).getD j false) fun j hj hdj=>by
                have hji : j ≠ i:=fun e'=>by subst e';exact e hdj
                show listed.getD j false = (listed.setIfInBounds i true).getD j false
                rw [hset,if_neg hji]]
          · rw [(heap_eff _ _ _ _).2,(stS_len ds vs us _ s _).2,(stS_len ds vs us _ s _).2]
        have hnext : ∀ (G' : Gh) (a' : Act) (w' : World),R B N G' ((stS ds vs us (fun j=>listed.getD j false) s l.length).eff (ds i) (vs i) (us i)) a' w' →
            wpAnyIn (fence fr) 0 P .any l.toArray (Post B N Q) fuel (listed.setIfInBounds i true) a' w':=fun G' a' w' hr'=>by
          refine ih (listed.setIfInBounds i true) G' a' w' (by simpa using hsz) (fun j p hj hs e he hb=>?_) (fun j hj=>?_) (heqv.R hr') ?_
          · have:=hcl' j p hj (by
              dsimp only at hs;rw [hset] at hs
              by_cases e' : j = i
              · exact .inl e'
              · rw [if_neg e'] at hs;exact .inr hs) e he hb
            dsimp only;rw [hset]
            rcases this with h|h
            · simp [h]
            · split
              · rfl
              · exact h
          · rw [hset,if_neg (by omega)];exact hout j hj
          · have hlen : (listed.setIfInBounds i true).toList = listed.toList.set i true:=by simp
            rw [hlen]
            have : ∀ (xs : List Bool) (k : Nat),xs[k]? = some false → ((xs.set k true).filter (fun b=>!b)).length + 1 = (xs.filter (fun b=>!b)).length:=fun xs=>by
              induction xs with
              | nil=>intro k h;simp at h
              | cons b xs ih =>
                intro k h
                cases k with
                | zero=>simp at h;subst h;simp
                | succ k=>simp at h;have:=ih k h;cases b <;> simp at this ⊢ <;> omega
            have:=this listed.toList i (by
              rw [Array.getD_eq_getD_getElem?,Array.getElem?_eq_getElem (by omega)] at hi0
              simp at hi0
              rw [Array.getElem?_toList,Array.getElem?_eq_getElem (by omega),hi0])
            omega
        have hput : ∀ (G' : Gh) (h' : List AObj) (a : Act) (w' : World) (r : Value) (st : AS) (v : AV) (u : Option (Nat × AObj)),R B N G' { st with heap:=appU u st.heap } a w' → Conc G' r v → R B N G' (st.eff (ds i) v u) (a.put (ds i) r) w':=fun G' h' a w' r st v u hR hv=>by
          cases hd : ds i with
          | none=>exact hR
          | some d=>exact hR.put (hdN d hd) hv
        simp only [wpOpIn,h2]
        have run : POpS P o (stS ds vs us (fun j=>listed.getD j false) s l.length).evO (stS ds vs us (fun j=>listed.getD j false) s l.length).heap (rs i) (vs i) (us i) →
            o.wpIn (fence fr) 0 P a w (wpAnyIn (fence fr) 0 P .any l.toArray (Post B N Q) fuel (listed.setIfInBounds i true)) (Post B N Q):=fun hp=>by
          refine wpIn_false ?_ (hp fr B G a w _ rfl (fun _ _=>rfl) hr.heap fun x _ u hu=>by rw [evO_some] at hu;cases hu;exact hr.ev x)
          rintro a' w' ⟨r,G',rfl,hg',hh,hv⟩
          rw [hdst]
          exact hnext G' _ w' (hput G' [] a w' r _ (vs i) (us i) (hr.step hg' hh) hv)
        rcases hop' with ⟨g1,g2⟩ | ⟨j,want,t,b,g1,g2,g3,g4⟩ | ⟨j,want,t,g1,g2,g3,g4⟩
        · rw [if_pos (by simp [Region.wanted,g1])];exact run g2
        · have hy:=yielded_of g2 hr g3
          rcases g4 with ⟨rfl,g4⟩ | ⟨hne,g4,g5⟩
          · rw [if_pos (by simp [Region.wanted,g1,hy])];exact run g4
          · rw [if_neg (by simp [Region.wanted,g1,hy,hne])]
            refine ⟨fun f _=>fence_fn fr f,?_⟩
            rw [hdst]
            refine hnext G _ w (hput G [] a w undef _ (vs i) (us i) ?_ (by rw [g4];exact .sc _))
            rw [g5];exact hr
        · have hy:=yielded_undef g2 hr g3
          rw [if_neg (by simp [Region.wanted,g1,hy])]
          refine ⟨fun f _=>fence_fn fr f,?_⟩
          rw [hdst]
          refine hnext G _ w (hput G [] a w undef _ (vs i) (us i) ?_ (by rw [g4.1];exact .sc _))
          rw [g4.2];exact hr
  refine key _ _ G00 a _ (by simp) (fun j p hj hs=>?_) (fun j hj=>?_) ?_ ?_
  · dsimp only at hs
    rw [Array.getD_eq_getD_getElem?,Array.getElem?_replicate] at hs
    split at hs <;> simp at hs
  · rw [Array.getD_eq_getD_getElem?,Array.getElem?_replicate];split <;> simp
  · have e : Eqv s (stS ds vs us (fun j=>(Array.replicate l.toArray.size false).getD j false) s l.length):=by
      have : ∀ n,stS ds vs us (fun j=>(Array.replicate l.toArray.size false).getD j false) s n = s:=fun n=>by
        induction n with
        | zero=>rfl
        | succ n ih =>
          simp only [stS,ih]
          rw [if_neg]
          rw [Array.getD_eq_getD_getElem?,Array.getElem?_replicate];split <;> simp
      rw [this];exact .refl s
    refine e.R ⟨?_,hr0.size,hr0.regs,hr0.defers,hr0.own⟩
    have:=hr0.heap
    exact ⟨this.base,this.tape,this.os,this.output,Nat.le_succ_of_le this.drawn,this.size,this.out,this.imm,this.low,this.obj,this.inj,this.fresh⟩
  · have:=List.length_filter_le (fun b : Bool=>!b) (Array.replicate l.toArray.size false).toList
    refine Nat.le_trans this ?_
    simp
end
end Go.AL

namespace Go.AL
def WkL : List (Nat × AV) → AS → Prop
  | [],_=>True
  | (t,v) :: l,s=>lookO s.regs t = some v ∧ WkL l s
structure Wk (s s' : AS) : Prop where
  regs : WkL s'.regs s
  heap : s'.heap = s.heap
  marks : s'.marks = s.marks
theorem WkL.look : ∀ {l : List (Nat × AV)} {s : AS},WkL l s → ∀ t,look l t = .any ∨ look l t = look s.regs t
  | [],_,_,_=>.inl rfl
  | (u,v) :: l,s,h,t=>by
    simp only [Go.AL.look]
    cases hq : Nat.beq u t with
    | true =>
      have : u = t:=Nat.eq_of_beq_eq_true hq
      subst this;exact .inr (lookO_eq h.1).symm
    | false=>exact h.2.look t
theorem Wk.R {P : Program} [GlobF P] {s s' : AS} (h : Wk s s') {B : Base P} {N : Nat} {G : Gh} {a : Act} {w : World} (hr : R B N G s a w) : R B N G s' a w :=
  ⟨h.heap ▸ hr.heap,hr.size,fun t=>by
    rcases h.regs.look t with e|e
    · rw [e];exact .any _
    · rw [e];exact hr.regs t,h.marks ▸ hr.defers,h.marks ▸ hr.own⟩
section
variable {P : Program} [GlobF P] {fr : Option Nat} {N : Nat} {Q : Exit → AS → Prop} {s : AS}
theorem W_weak {c : Code} {s' : AS} (hw : Wk s s') (h : W P fr N c Q s') : W P fr N c Q s:=fun B G a w hr=>h B G a w (hw.R hr)
def evR (rg : List (Nat × AV)) : Operand → Option AV
  | .tmp t=>lookO rg t
  | .const v=>some (.sc v)
  | .global g=>some (.sc (.pointer (some ⟨g,0,none⟩)))
  | .func f=>some (.sc (.func (.func f) #[] #[]))
theorem evR_eq (rg : List (Nat × AV)) (hp : List AObj) (mk : Mk) : evR rg = (⟨rg,hp,mk⟩ : AS).evO:=funext fun x=>by cases x <;> rfl
class BP (b : Bool) (p q : outParam Prop) : Prop where
  t : b = true → p
  f : b = false → q
instance (priority:=low) bpAny (b : Bool) : BP b (b = true) (b = false):=⟨id,id⟩
instance (a b : Int) : BP (iLt a b) (a < b) (b ≤ a):=⟨fun h=>by rwa [iLt_t] at h,fun h=>by rwa [iLt_f] at h⟩
instance (a b : Int) : BP (iLe a b) (a ≤ b) (b < a):=⟨fun h=>by rwa [iLe_t] at h,fun h=>by rwa [iLe_f] at h⟩
instance (a b : Int) : BP (iEq a b) (a = b) (a ≠ b):=⟨fun h=>by rwa [iEq_t] at h,fun h=>by rwa [iEq_f] at h⟩
instance (a b : List UInt8) : BP (sEq a b) (a = b) (a ≠ b):=⟨fun h=>by rwa [sEq_t] at h,fun h=>by rwa [sEq_f] at h⟩
instance (b : Bool) (p q : Prop) [h : BP b p q] : BP (bNot b) q p:=⟨fun e=>h.f (by rwa [bNot_t] at e),fun e=>h.t (by rwa [bNot_f] at e)⟩
instance (a b : Bool) : BP (bEq a b) (a = b) (a ≠ b):=⟨fun h=>by rwa [bEq_t] at h,fun h=>by rwa [bEq_f] at h⟩
theorem ieq {k : IntKind} {a b : Int} (h : a = b) : some (AV.sc (.int k a)) = some (.sc (.int k b)):=by rw [h]
theorem w64 (n : Int) (h1 : -9223372036854775808 ≤ n) (h2 : n ≤ 9223372036854775807) : IntKind.i64.wrap n = n:=by
  exact IntWalk.i64_in n (by omega)
theorem wsucc (i : Nat) (h : i < 9223372036854775807) : IntKind.i64.wrap ((i : Int) + 1) = ((i + 1 : Nat) : Int):=by rw [w64 _ (by omega) (by omega)];rfl
section
variable {ops : Array Oper} {rest : List Oper} {rg : List (Nat × AV)} {hp : List AObj} {mk : Mk} {op : Op} {ty : TypeId} {pos : String} {af : Array Edge} {d : Nat} {dst : Option Nat} {v : AV} {K : AS → Prop} {acc : List Sl}
theorem p1 (hop : PPOp P { dst:=some d,op:=op,type:=ty,pos:=pos,after:=af,guard:=none } (evR rg) v) (hd : Nat.blt d N = true)
    (h : WL P fr N ops rest Q ⟨(d,v) :: rg,hp,mk⟩) : WL P fr N ops ({ dst:=some d,op:=op,type:=ty,pos:=pos,after:=af,guard:=none } :: rest) Q ⟨rg,hp,mk⟩:=WL_p (evR_eq rg hp mk ▸ hop hp) hd h
theorem p1L (hop : POp P { dst:=some d,op:=op,type:=ty,pos:=pos,after:=af,guard:=none } (evR rg) hp v) (hd : Nat.blt d N = true)
    (h : WL P fr N ops rest Q ⟨(d,v) :: rg,hp,mk⟩) : WL P fr N ops ({ dst:=some d,op:=op,type:=ty,pos:=pos,after:=af,guard:=none } :: rest) Q ⟨rg,hp,mk⟩:=WL_p (evR_eq rg hp mk ▸ hop) hd h
theorem g1 {j t : Nat} {want : Bool} (hj : gdst ops j = some t) (hb : lookO rg t = some (.sc (.bool want))) (hop : PPOp P { dst:=some d,op:=op,type:=ty,pos:=pos,after:=af,guard:=none } (evR rg) v) (hd : Nat.blt d N = true)
    (h : WL P fr N ops rest Q ⟨(d,v) :: rg,hp,mk⟩) : WL P fr N ops ({ dst:=some d,op:=op,type:=ty,pos:=pos,after:=af,guard:=some (j,want) } :: rest) Q ⟨rg,hp,mk⟩ :=
  WL_guard_run rfl hj (lookO_eq hb) (p1 hop hd h)
theorem gr {j t : Nat} {want : Bool} (hj : gdst ops j = some t) (hb : lookO rg t = some (.sc (.bool want)))
    (h : WL P fr N ops ({ dst:=some d,op:=op,type:=ty,pos:=pos,after:=af,guard:=none } :: rest) Q ⟨rg,hp,mk⟩) : WL P fr N ops ({ dst:=some d,op:=op,type:=ty,pos:=pos,after:=af,guard:=some (j,want) } :: rest) Q ⟨rg,hp,mk⟩ :=
  WL_guard_run rfl hj (lookO_eq hb) h
theorem POp.guard {g g' : Option (Nat × Bool)} {dst : Option Nat} {ρ : Operand → Option AV} (h : POp P { dst:=dst,op:=op,type:=ty,pos:=pos,after:=af,guard:=g } ρ hp v) : POp P { dst:=dst,op:=op,type:=ty,pos:=pos,after:=af,guard:=g' } ρ hp v:=by
  intro fr B G a w hr hE
  have:=h fr B G a w hr hE
  simpa [Oper.wpIn,Oper.about,Oper.semAt,execOp,Oper.uponIn] using this
theorem POpS.guard {g g' : Option (Nat × Bool)} {dst : Option Nat} {ρ : Operand → Option AV} {rs : List Nat} {u : Option (Nat × AObj)} (h : POpS P { dst:=dst,op:=op,type:=ty,pos:=pos,after:=af,guard:=g } ρ hp rs v u) : POpS P { dst:=dst,op:=op,type:=ty,pos:=pos,after:=af,guard:=g' } ρ hp rs v u:=by
  intro fr B G a w h' hl hs hr hE
  have:=h fr B G a w h' hl hs hr hE
  simpa [Oper.wpIn,Oper.about,Oper.semAt,execOp,Oper.uponIn] using this
theorem g0 {j t : Nat} {want b : Bool} (hj : gdst ops j = some t) (hb : lookO rg t = some (.sc (.bool b))) (hne : (b == want) = false) (hd : Nat.blt d N = true)
    (h : WL P fr N ops rest Q ⟨(d,.sc undef) :: rg,hp,mk⟩) : WL P fr N ops ({ dst:=some d,op:=op,type:=ty,pos:=pos,after:=af,guard:=some (j,want) } :: rest) Q ⟨rg,hp,mk⟩ :=
  WL_guard_skip rfl rfl hd hj (lookO_eq hb) hne h
theorem g0t {j t : Nat} (hj : gdst ops j = some t) (hb : lookO rg t = some (.sc (.bool false))) (hd : Nat.blt d N = true)
    (h : WL P fr N ops rest Q ⟨(d,.sc undef) :: rg,hp,mk⟩) : WL P fr N ops ({ dst:=some d,op:=op,type:=ty,pos:=pos,after:=af,guard:=some (j,true) } :: rest) Q ⟨rg,hp,mk⟩:=g0 hj hb rfl hd h
theorem g0f {j t : Nat} (hj : gdst ops j = some t) (hb : lookO rg t = some (.sc (.bool true))) (hd : Nat.blt d N = true)
    (h : WL P fr N ops rest Q ⟨(d,.sc undef) :: rg,hp,mk⟩) : WL P fr N ops ({ dst:=some d,op:=op,type:=ty,pos:=pos,after:=af,guard:=some (j,false) } :: rest) Q ⟨rg,hp,mk⟩:=g0 hj hb rfl hd h
theorem g0u {j t : Nat} {want : Bool} (hj : gdst ops j = some t) (hb : lookO rg t = some (.sc undef)) (hd : Nat.blt d N = true)
    (h : WL P fr N ops rest Q ⟨(d,.sc undef) :: rg,hp,mk⟩) : WL P fr N ops ({ dst:=some d,op:=op,type:=ty,pos:=pos,after:=af,guard:=some (j,want) } :: rest) Q ⟨rg,hp,mk⟩:=WL_guard_undef rfl rfl hd hj (lookO_eq hb) h
theorem gs {j t : Nat} {want b : Bool} {p q : Prop} [hbp : BP b p q] (hj : gdst ops j = some t) (hb : lookO rg t = some (.sc (.bool b))) (ht : p → WL P fr N ops ({ dst:=some d,op:=op,type:=ty,pos:=pos,after:=af,guard:=some (j,want) } :: rest) Q ⟨(t,.sc (.bool true)) :: rg,hp,mk⟩)
    (hf : q → WL P fr N ops ({ dst:=some d,op:=op,type:=ty,pos:=pos,after:=af,guard:=some (j,want) } :: rest) Q ⟨(t,.sc (.bool false)) :: rg,hp,mk⟩) :
    WL P fr N ops ({ dst:=some d,op:=op,type:=ty,pos:=pos,after:=af,guard:=some (j,want) } :: rest) Q ⟨rg,hp,mk⟩:=WL_gsplit rfl hj (lookO_eq hb) (fun e=>ht (hbp.t e)) (fun e=>hf (hbp.f e))
theorem d1 (hop : PPOp P { dst:=some d,op:=op,type:=ty,pos:=pos,after:=af,guard:=none } (evR rg) v) (hd : Nat.blt d N = true)
    (h : WD P N ops rest (([],none) :: acc) K ⟨(d,v) :: rg,hp,mk⟩) : WD P N ops ({ dst:=some d,op:=op,type:=ty,pos:=pos,after:=af,guard:=none } :: rest) acc K ⟨rg,hp,mk⟩ :=
  WD_s (u:=none) (.inl ⟨rfl,evR_eq rg hp mk ▸ POpS.of hop⟩) (fun d' e=>by cases e;simpa [Nat.blt_eq] using hd) trivial h
theorem dL (r : Nat) (hop : ∀ hp',hp'[r]? = hp[r]? → POp P { dst:=some d,op:=op,type:=ty,pos:=pos,after:=af,guard:=none } (evR rg) hp' v) (hd : Nat.blt d N = true)
    (h : WD P N ops rest (([r],none) :: acc) K ⟨(d,v) :: rg,hp,mk⟩) : WD P N ops ({ dst:=some d,op:=op,type:=ty,pos:=pos,after:=af,guard:=none } :: rest) acc K ⟨rg,hp,mk⟩ :=
  WD_s (rs:=[r]) (u:=none) (.inl ⟨rfl,evR_eq rg hp mk ▸ fun fr B G a w h' _ hs hr hE=>hop h' (hs r (.head _)) fr B G a w hr hE⟩) (fun d' e=>by cases e;simpa [Nat.blt_eq] using hd) trivial h
theorem dS {r : Nat} {o : AObj} (hop : POpS P { dst:=none,op:=op,type:=ty,pos:=pos,after:=af,guard:=none } (evR rg) hp [r] v (some (r,o))) (hr : Nat.blt r hp.length = true)
    (h : WD P N ops rest (([r],some r) :: acc) K ⟨rg,hp.set r o,mk⟩) : WD P N ops ({ dst:=none,op:=op,type:=ty,pos:=pos,after:=af,guard:=none } :: rest) acc K ⟨rg,hp,mk⟩ :=
  WD_s (rs:=[r]) (u:=some (r,o)) (.inl ⟨rfl,evR_eq rg hp mk ▸ hop⟩) (fun d' e=>by cases e) ⟨.head _,by simpa [Nat.blt_eq] using hr⟩ h
theorem dV {r : Nat} {o : AObj} (hop : POpS P { dst:=some d,op:=op,type:=ty,pos:=pos,after:=af,guard:=none } (evR rg) hp [r] v (some (r,o))) (hr : Nat.blt r hp.length = true) (hd : Nat.blt d N = true)
    (h : WD P N ops rest (([r],some r) :: acc) K ⟨(d,v) :: rg,hp.set r o,mk⟩) : WD P N ops ({ dst:=some d,op:=op,type:=ty,pos:=pos,after:=af,guard:=none } :: rest) acc K ⟨rg,hp,mk⟩ :=
  WD_s (rs:=[r]) (u:=some (r,o)) (.inl ⟨rfl,evR_eq rg hp mk ▸ hop⟩) (fun d' e=>by cases e;simpa [Nat.blt_eq] using hd) ⟨.head _,by simpa [Nat.blt_eq] using hr⟩ h
theorem WL_s {s : AS} {dst : Option Nat} {rs : List Nat} {u : Option (Nat × AObj)} (hop : POpS P { dst:=dst,op:=op,type:=ty,pos:=pos,after:=af,guard:=none } s.evO s.heap rs v u) (hd : ∀ d',dst = some d' → d' < N)
    (h : WL P fr N ops rest Q (s.eff dst v u)) : WL P fr N ops ({ dst:=dst,op:=op,type:=ty,pos:=pos,after:=af,guard:=none } :: rest) Q s:=by
  intro B G a w hr
  refine wpListIn_plain rfl fun K hK=>?_
  refine wpIn_false ?_ (hop fr B G a w _ rfl (fun _ _=>rfl) hr.heap fun x _ u hu=>by rw [evO_some] at hu;cases hu;exact hr.ev x)
  rintro a' w' ⟨r,G',rfl,hg',hh,hv⟩
  refine hK _ _ (h B G' _ w' ?_)
  have hR:=hr.step hg' hh
  cases dst with
  | none=>exact hR
  | some d=>exact hR.put (hd d rfl) hv
theorem pS {rs : List Nat} {r : Nat} {o : AObj} (hop : POpS P { dst:=none,op:=op,type:=ty,pos:=pos,after:=af,guard:=none } (evR rg) hp rs v (some (r,o)))
    (h : WL P fr N ops rest Q ⟨rg,hp.set r o,mk⟩) : WL P fr N ops ({ dst:=none,op:=op,type:=ty,pos:=pos,after:=af,guard:=none } :: rest) Q ⟨rg,hp,mk⟩ :=
  WL_s (s:=⟨rg,hp,mk⟩) (u:=some (r,o)) (evR_eq rg hp mk ▸ hop) (fun d' e=>by cases e) h
theorem pV {rs : List Nat} {r : Nat} {o : AObj} (hop : POpS P { dst:=some d,op:=op,type:=ty,pos:=pos,after:=af,guard:=none } (evR rg) hp rs v (some (r,o))) (hd : Nat.blt d N = true)
    (h : WL P fr N ops rest Q ⟨(d,v) :: rg,hp.set r o,mk⟩) : WL P fr N ops ({ dst:=some d,op:=op,type:=ty,pos:=pos,after:=af,guard:=none } :: rest) Q ⟨rg,hp,mk⟩ :=
  WL_s (s:=⟨rg,hp,mk⟩) (u:=some (r,o)) (evR_eq rg hp mk ▸ hop) (fun d' e=>by cases e;simpa [Nat.blt_eq] using hd) h
end
theorem W_condS {t : Nat} {x y : Code} {b : Bool} (hb : look s.regs t = .sc (.bool b)) (ht : b = true → W P fr N x Q (s.put t (.sc (.bool true)))) (hf : b = false → W P fr N y Q (s.put t (.sc (.bool false)))) : W P fr N (.cond (.tmp t) x y) Q s:=by
  have eqv : ∀ c,b = c → Eqv s (s.put t (.sc (.bool c))):=fun c hc=>⟨fun u=>by
    simp only [AS.put,look]
    cases hq : Nat.beq t u with
    | true=>have : t = u:=Nat.eq_of_beq_eq_true hq;subst this;rw [hb,hc]
    | false=>rfl,rfl,rfl⟩
  refine W_cond (b:=b) hb (fun h B G a w hr=>ht h B G a w ((eqv _ h).R hr)) (fun h B G a w hr=>hf h B G a w ((eqv _ h).R hr))
theorem c1 {t : Nat} {x y : Code} {rg : List (Nat × AV)} {hp : List AObj} {mk : Mk} (hb : lookO rg t = some (.sc (.bool true))) (h : W P fr N x Q ⟨rg,hp,mk⟩) : W P fr N (.cond (.tmp t) x y) Q ⟨rg,hp,mk⟩:=W_condT (lookO_eq hb) h
theorem c0 {t : Nat} {x y : Code} {rg : List (Nat × AV)} {hp : List AObj} {mk : Mk} (hb : lookO rg t = some (.sc (.bool false))) (h : W P fr N y Q ⟨rg,hp,mk⟩) : W P fr N (.cond (.tmp t) x y) Q ⟨rg,hp,mk⟩:=W_condF (lookO_eq hb) h
theorem cs {t : Nat} {x y : Code} {b : Bool} {p q : Prop} [hbp : BP b p q] {rg : List (Nat × AV)} {hp : List AObj} {mk : Mk} (hb : lookO rg t = some (.sc (.bool b))) (ht : p → W P fr N x Q ⟨(t,.sc (.bool true)) :: rg,hp,mk⟩)
    (hf : q → W P fr N y Q ⟨(t,.sc (.bool false)) :: rg,hp,mk⟩) : W P fr N (.cond (.tmp t) x y) Q ⟨rg,hp,mk⟩:=W_condS (lookO_eq hb) (fun e=>ht (hbp.t e)) (fun e=>hf (hbp.f e))
theorem tn {nx : AS → Prop} (h : nx s) : thn nx Q .normal s:=h
theorem tr {nx : AS → Prop} (h : Q .ret s) : thn nx Q .ret s:=h
theorem te {nx : AS → Prop} {i : Nat} (h : Q (.exit i) s) : thn nx Q (.exit i) s:=h
theorem bn {i : Nat} (h : Q .normal s) : inBlk i Q .normal s:=h
theorem br {i : Nat} (h : Q .ret s) : inBlk i Q .ret s:=h
theorem bh {i j : Nat} (hj : Nat.beq j i = true) (h : Q .normal s) : inBlk i Q (.exit j) s:=by simp only [inBlk,hj];exact h
theorem bm {i j : Nat} (hj : Nat.beq j i = false) (h : Q (.exit j) s) : inBlk i Q (.exit j) s:=by simp only [inBlk,hj];exact h
theorem ret1 {fn : Func} {t : Nat} {v v' : AV} {s : AS} (hf : fn.results = #[.tmp t]) (hm : s.marks.l = []) (hv : lookO s.regs t = some v') (hle : Le v' v) : Ret P fn (fun v' _=>Le v' v) .ret s:=by
  show MarksOK s.marks.l s.heap ∧ _
  rw [hm]
  exact ⟨trivial,v',ResOf.one hf (lookO_eq hv),hle⟩
theorem ret2 {fn : Func} {t t2 : Nat} {v1 v2 u1 u2 : AV} {s : AS} (hf : fn.results = #[.tmp t,.tmp t2]) (hm : s.marks.l = []) (hv : lookO s.regs t = some v1) (hv2 : lookO s.regs t2 = some v2) (hle : Le v1 u1) (hle2 : Le v2 u2) : Ret P fn (fun v' _=>Le v' (.tu [u1,u2])) .ret s:=by
  show MarksOK s.marks.l s.heap ∧ _
  rw [hm]
  refine ⟨trivial,.tu [v1,v2],ResOf.two hf (lookO_eq hv) (lookO_eq hv2),fun G v h=>?_⟩
  cases h with
  | tu l h =>
    have hc : ConcL G _ _:=⟨l,h⟩
    have:=LeL.conc (xs:=[v1,v2]) (ys:=[u1,u2]) ⟨hle,hle2,trivial⟩ hc
    exact .tu this.1 this.2
theorem Le.bool {b b' : Bool} (h : b = b') : Le (.sc (.bool b)) (.sc (.bool b')):=h ▸ Le.of_eq rfl
theorem Le.int {k : IntKind} {b b' : Int} (h : b = b') : Le (.sc (.int k b)) (.sc (.int k b')):=h ▸ Le.of_eq rfl
theorem Le.str {b b' : List UInt8} (h : b = b') : Le (str b) (str b'):=h ▸ Le.of_eq rfl
theorem W_loopL {X : Type} {c : Code} (st : X → List (Nat × AV)) (hp : X → List AObj) (I : X → Prop) (μ : X → Nat) (x0 : X) (h0 : I x0) (hs : WkL (st x0) s) (hh : hp x0 = s.heap)
    (h : ∀ x,I x → W P fr N c (thn (fun s'=>s'.marks = s.marks ∧ ∃ x',I x' ∧ μ x' < μ x ∧ WkL (st x') s' ∧ hp x' = s'.heap) Q) ⟨st x,hp x,s.marks⟩) : W P fr N (.loop c) Q s:=by
  refine W_weak (s':=⟨st x0,hp x0,s.marks⟩) ⟨hs,hh,rfl⟩ ?_
  intro B G a w hr
  let p : Act → World → Nat → Prop:=fun a w n=>∃ x G',I x ∧ R B N G' ⟨st x,hp x,s.marks⟩ a w ∧ μ x = n
  have hmin : ∀ a w,(∃ n,p a w n) → ∃ n,p a w n ∧ ∀ m,p a w m → n ≤ m:=fun a w=>least (p a w)
  refine wpIn_loop (fun a w=>∃ n,p a w n) (fun a w=>Classical.epsilon fun n=>p a w n ∧ ∀ m,p a w m → n ≤ m) ⟨μ x0,x0,G,h0,hr,rfl⟩ ?_
  intro a w hI
  have he:=Classical.epsilon_spec (hmin a w hI)
  generalize (Classical.epsilon fun n=>p a w n ∧ ∀ m,p a w m → n ≤ m) = k at he
  obtain ⟨⟨x,G1,hx,hr1,rfl⟩,-⟩:=he
  refine wpIn_mono (h x hx B G1 a w hr1) ?_
  rintro e a' w' ⟨G2,s',hr2,hq⟩
  cases e <;> simp only [thn,Exit.then] at hq ⊢
  case normal =>
    obtain ⟨hm,x',hx',hlt,hwk,hhp⟩:=hq
    have hp : p a' w' (μ x'):=⟨x',G2,hx',Wk.R (s:=s') (s':=⟨st x',hp x',s.marks⟩) ⟨hwk,hhp,hm.symm⟩ hr2,rfl⟩
    exact ⟨⟨_,hp⟩,Nat.lt_of_le_of_lt ((Classical.epsilon_spec (hmin a' w' ⟨_,hp⟩)).2 _ hp) hlt⟩
  all_goals exact ⟨G2,s',hr2,hq⟩
end
end Go.AL

namespace Go.AL
def over (cs : Array Value) (off : Nat) (vs : Array Value) : Array Value:=vs.zipIdx.foldl (fun cs (c,j)=>cs.setIfInBounds (off + j) c) cs
theorem over_go (off : Nat) : ∀ (vs : List Value) (k : Nat) (cs : Array Value),((vs.zipIdx k).foldl (fun cs (p : Value × Nat)=>cs.setIfInBounds (off + p.2) p.1) cs).size = cs.size ∧
    ∀ q,((vs.zipIdx k).foldl (fun cs (p : Value × Nat)=>cs.setIfInBounds (off + p.2) p.1) cs)[q]? = if off + k ≤ q ∧ q < off + k + vs.length ∧ q < cs.size then vs[q - (off + k)]? else cs[q]?
  | [],k,cs=>⟨rfl,fun q=>by
    have : ¬ (off + k ≤ q ∧ q < off + k + ([] : List Value).length ∧ q < cs.size):=by simp;omega
    rw [if_neg this];rfl⟩
  | v :: vs,k,cs=>by
    obtain ⟨h1,h2⟩:=over_go off vs (k + 1) (cs.setIfInBounds (off + k) v)
    simp only [List.zipIdx_cons,List.foldl_cons]
    refine ⟨by rw [h1];simp,fun q=>?_⟩
    rw [h2]
    simp only [Array.size_setIfInBounds,List.length_cons]
    by_cases hq : q = off + k
    · subst hq
      rw [if_neg (by omega)]
      by_cases hs : off + k < cs.size
      · rw [if_pos (by omega)];simp [hs]
      · rw [if_neg (by omega),Array.getElem?_setIfInBounds];simp [hs]
    · by_cases hc : off + (k + 1) ≤ q ∧ q < off + (k + 1) + vs.length ∧ q < cs.size
      · rw [if_pos hc,if_pos (by omega)]
        have : q - (off + k) = (q - (off + (k + 1))) + 1:=by omega
        rw [this,List.getElem?_cons_succ]
      · rw [if_neg hc,if_neg (by omega),Array.getElem?_setIfInBounds_ne (Ne.symm hq)]
theorem over_spec (cs : Array Value) (off : Nat) (vs : Array Value) : (over cs off vs).size = cs.size ∧ ∀ q,(over cs off vs)[q]? = if off ≤ q ∧ q < off + vs.size ∧ q < cs.size then vs[q - off]? else cs[q]?:=by
  have:=over_go off vs.toList 0 cs
  unfold over
  rw [← Array.foldl_toList,Array.toList_zipIdx]
  simpa using this
theorem fill_seq (k : Nat) : ∀ (vs : List Value) (i : Nat) (cs : Array Value),(∀ v,v ∈ vs → v.cells.size = k) → (i + vs.length) * k ≤ cs.size →
    ∃ cs',Instr.fill (fun i=>some (i * k,k)) cs ((List.range' i vs.length).zip vs) = some cs' ∧ cs'.size = cs.size ∧ (∀ q,q < i * k → cs'[q]? = cs[q]?) ∧
      ∀ m v j,vs[m]? = some v → j < k → cs'[(i + m) * k + j]? = v.cells[j]?
  | [],i,cs,_,_=>⟨cs,rfl,rfl,fun _ _=>rfl,fun m v j h=>by simp at h⟩
  | v :: vs,i,cs,hk,hs=>by
    have hv:=hk v (.head _)
    have hs' : (i + 1 + vs.length) * k ≤ cs.size:=by simp only [List.length_cons] at hs;rwa [show i + 1 + vs.length = i + (vs.length + 1) by omega]
    have hik : (i + 1) * k ≤ cs.size:=Nat.le_trans (Nat.mul_le_mul_right k (by omega)) hs'
    have hik' : i * k + k ≤ cs.size:=by rw [Nat.succ_mul] at hik;exact hik
    obtain ⟨hsz,hget⟩:=over_spec cs (i * k) v.cells
    obtain ⟨cs',h1,h2,h3,h4⟩:=fill_seq k vs (i + 1) (over cs (i * k) v.cells) (fun u hu=>hk u (.tail _ hu)) (by rw [hsz];exact hs')
    refine ⟨cs',?_,h2.trans hsz,fun q hq=>?_,fun m u j hm hj=>?_⟩
    · simp only [List.length_cons,List.range'_succ,List.zip_cons_cons,Instr.fill]
      rw [if_neg (by simp [hv];omega)]
      exact h1
    · rw [h3 q (by rw [Nat.succ_mul];omega),hget,if_neg (by omega)]
    · cases m with
      | zero =>
        simp at hm;subst hm
        rw [Nat.add_zero,h3 _ (by rw [Nat.succ_mul];omega),hget,if_pos (by omega)]
        congr 1;omega
      | succ m =>
        have:=h4 m u j (by simpa using hm) hj
        rw [show i + (m + 1) = i + 1 + m by omega];exact this
def partsO (ρ : Operand → Option AV) : Nat → List (Nat × Operand) → Option (List (List AV))
  | _,[]=>some []
  | i,(j,x) :: ps=>match Nat.beq i j,ρ x with
    | true,some v=>match cellsO v,partsO ρ (i + 1) ps with
      | some cs,some els=>some (cs :: els)
      | _,_=>none
    | _,_=>none
theorem partsO_spec {ρ : Operand → Option AV} : ∀ {ps : List (Nat × Operand)} {i : Nat} {els : List (List AV)},partsO ρ i ps = some els →
    ps.map (·.1) = List.range' i ps.length ∧ els.length = ps.length ∧ ∀ (m : Nat) (p : Nat × Operand) (e : List AV),ps[m]? = some p → els[m]? = some e → ∃ v,ρ p.2 = some v ∧ cellsO v = some e
  | [],i,els,h=>by simp [partsO] at h;subst h;exact ⟨rfl,rfl,fun m p e h=>by simp at h⟩
  | (j, x) :: ps,i,els,h=>by
    simp only [partsO] at h
    cases hb : Nat.beq i j with
    | false=>rw [hb] at h;simp at h
    | true =>
      cases hx : ρ x with
      | none=>rw [hb,hx] at h;simp at h
      | some v =>
        rw [hb,hx] at h
        simp only at h
        cases hc : cellsO v with
        | none=>rw [hc] at h;simp at h
        | some cs =>
          cases hp : partsO ρ (i + 1) ps with
          | none=>rw [hc,hp] at h;simp at h
          | some es =>
            rw [hc,hp] at h
            simp only [Option.some.injEq] at h
            subst h
            obtain ⟨g1,g2,g3⟩:=partsO_spec hp
            have hij : i = j:=Nat.eq_of_beq_eq_true hb
            refine ⟨by simp [List.range'_succ,g1,hij],by simp [g2],fun m p e hm he=>?_⟩
            cases m with
            | zero=>simp at hm he;subst hm;subst he;exact ⟨v,hx,hc⟩
            | succ m=>exact g3 m p e (by simpa using hm) (by simpa using he)
theorem zip_map_map (ps : List (Nat × Operand)) (a : Act) : (ps.map (·.1)).zip (ps.map (fun p=>a.eval p.2)) = ps.map (fun p=>(p.1,a.eval p.2)):=by
  induction ps with
  | nil=>rfl
  | cons p ps ih=>simp [ih]
section
variable {P : Program} [GlobF P] {ty : TypeId} {pos : String} {af : Array Edge} {dst : Option Nat} {gd : Option (Nat × Bool)} {ρ : Operand → Option AV} {hp : List AObj}
theorem D_lit {t e n k : Nat} {ps : List (Nat × Operand)} {els : List (List AV)} {z : Value} [hu : Und P t (.slice e)] [hs : Siz P e k] [hz : Zer P e z] (hps : partsO ρ 0 ps = some els) (hn : Nat.beq n ps.length = true) (hk : els.all (fun e=>Nat.beq e.length k) = true) (hm : Nat.ble (n * k) 1000 = true) :
    PPOp P { dst:=dst,op:=.buildSlice t n ps.toArray,type:=ty,pos:=pos,after:=af,guard:=gd } ρ (.sl none k els) :=
  PPOp.op (by simp) (fun B G a w hR E=>by
    obtain ⟨g1,g2,g3⟩:=partsO_spec hps
    have hn' : n = ps.length:=Nat.eq_of_beq_eq_true hn
    have hk' : ∀ e,e ∈ els → e.length = k:=fun e he=>Nat.eq_of_beq_eq_true (List.all_eq_true.1 hk e he)
    have hm' : n * k ≤ 1000:=by simpa using hm
    let vs : List Value:=ps.map (fun p=>a.eval p.2)
    have hvl : vs.length = n:=by simp [vs,hn']
    have hmem : ∀ p,p ∈ ps → p.2 ∈ (Op.buildSlice t n ps.toArray).operands.toList:=fun p hp=>by
      simp only [Op.operands,List.mem_map];exact ⟨p,hp,rfl⟩
    have hcon : ∀ (m : Nat) (v : Value) (e : List AV),vs[m]? = some v → els[m]? = some e → ConcL G v.cells.toList e:=fun m v e hv he=>by
      simp only [vs,List.getElem?_map,Option.map_eq_some_iff] at hv
      obtain ⟨p,hp,rfl⟩:=hv
      obtain ⟨u,h1,h2⟩:=g3 m p e hp he
      exact cellsO_conc (E p.2 (hmem p (List.mem_of_getElem? hp)) u h1) h2
    have hvk : ∀ v,v ∈ vs → v.cells.size = k:=fun v hv=>by
      obtain ⟨m,hm,rfl⟩:=List.getElem_of_mem hv
      have hm2 : m < els.length:=by rw [g2,← hn',← hvl];exact hm
      have:=hcon m _ _ (List.getElem?_eq_getElem hm) (List.getElem?_eq_getElem hm2)
      rw [← hk' _ (List.getElem_mem hm2),← this.1];simp
    let cs0 : Array Value:=(Array.range (n * k)).map ((if n * k = 0 then #[] else z.cells)[· % (if n * k = 0 then #[] else z.cells).size]!)
    have hcs0 : cs0.size = n * k:=by simp [cs0]
    obtain ⟨cs',f1,f2,_,f4⟩:=fill_seq k vs 0 cs0 hvk (by rw [hvl,hcs0];simp)
    have hzip : (List.range' 0 vs.length).zip vs = ps.map (fun p=>(p.1,a.eval p.2)):=by
      rw [show vs.length = ps.length by simp [vs],← g1];exact zip_map_map ps a
    rw [hzip] at f1
    obtain ⟨hle,hr'⟩:=hR.allocImm cs'.toList e (0,0) 0
    rw [Array.toArray_toList] at hr'
    have hel : els.length = n:=by rw [g2,hn']
    refine ⟨.slice (some ⟨w.heap.size,0,none⟩) n n,_,_,?_,hle,hr',?_⟩
    · simp only [execOp,Instr.buildSlice,Sem.run_bind,run_underlying hu.h,Result.andThen,hs.h]
      rw [if_neg (by omega)]
      have f1' : Instr.fill (fun i=>some (i * k,k)) ((Array.range (n * k)).map ((if n * k = 0 then #[] else z.cells)[· % (if n * k = 0 then #[] else z.cells).size]!)) (ps.map (fun p=>(p.1,a.eval p.2))) = some cs':=f1
      clear f1
      by_cases h0 : n * k = 0
      · simp only [h0,if_true,Sem.run_bind,Sem.run_pure,Result.andThen,List.map_toArray] at f1' ⊢
        rw [f1'];rfl
      · simp only [h0,if_false,Sem.run_bind,Sem.run_pure,Result.andThen,List.map_toArray,hz.h] at f1' ⊢
        rw [f1'];rfl
    · rw [← hel]
      refine sl_new (c:=cs'.toList) hk' (Nat.le_refl _) (fun j u hu=>by simpa using hu) (by simp [f2,hcs0,hel]) (fun i e j x u he hx hu=>?_)
      have hi : i < els.length:=(List.getElem?_eq_some_iff.1 he).1
      have hj : j < k:=by rw [← hk' e (List.mem_of_getElem? he)];exact (List.getElem?_eq_some_iff.1 hx).1
      have hiv : i < vs.length:=by rw [hvl,← hel];exact hi
      have h5:=f4 i vs[i] j (List.getElem?_eq_getElem hiv) hj
      rw [Nat.zero_add,← Array.getElem?_toList,hu] at h5
      exact (hcon i _ e (List.getElem?_eq_getElem hiv) he).2 j u x (by rw [Array.getElem?_toList,← h5]) hx |>.mono hle)
class Xt (P : Program) (f : FuncId) (e : outParam (Array Value → Sem Value)) : Prop where
  h : ∀ (args : Array Value) (w : World),(callFunc f args).run P w = ((e args).run P w).andThen fun v w'=>.ok (.value v) w'
end
end Go.AL

namespace Go.AL
def opsO (ρ : Operand → Option AV) : List Operand → Option (List AV)
  | []=>some []
  | x :: l=>match ρ x,opsO ρ l with
    | some u,some us=>some (u :: us)
    | _,_=>none
theorem opsO_conc {G : Gh} {a : Act} {ρ : Operand → Option AV} : ∀ {l : List Operand} {ys : List AV},opsO ρ l = some ys → (∀ x,x ∈ l → ∀ u,ρ x = some u → Conc G (a.eval x) u) → ConcL G (l.map a.eval) ys
  | [],ys,h,_=>by simp only [opsO,Option.some.injEq] at h;subst h;exact .nil _
  | x :: l,ys,h,hE=>by
    simp only [opsO] at h
    split at h
    · rename_i u us hu hus
      simp only [Option.some.injEq] at h;subst h
      exact .cons (hE x (.head _) u hu) (opsO_conc hus fun z hz=>hE z (.tail _ hz))
    · cases h
section
variable {P : Program} [GlobF P] {ty : TypeId} {pos : String} {af : Array Edge} {dst : Option Nat} {gd : Option (Nat × Bool)} {ρ : Operand → Option AV} {hp : List AObj}
theorem D_mkfn {f : FuncId} {caps : List Operand} {ys : List AV} (h : opsO ρ caps = some ys) : PPOp P { dst:=dst,op:=.makeFunc (.func f) #[] caps.toArray,type:=ty,pos:=pos,after:=af,guard:=gd } ρ (.fn (.func f) [] ys) :=
  PPOp.val (by simp) (fun B G a w hR E=>by
    have hc:=opsO_conc h (a:=a) (G:=G) fun x hx=>E x (by simp [Op.operands];exact hx)
    refine ⟨.func (.func f) #[] (caps.map a.eval).toArray,by simp [execOp,Instr.makeFunc],?_⟩
    exact .fn (fs:=[]) rfl hc.1 (fun i v x h=>by simp at h) hc.2)
theorem D_xidx {x y z : Operand} {ts : Array TypeId} {f : FuncId} {a : List UInt8} {c : Int} [hx : Xt P f Extern.BytealgIndexByte.indexByte] (hz : ρ z = some (.sc (.func (.func f) #[] #[]))) (h1 : ρ x = some (str a)) (h2 : ρ y = some (.sc (.int .u8 c))) :
    PPOp P { dst:=dst,op:=.call { callee:=.value z,args:=#[x,y],argTypes:=ts },type:=ty,pos:=pos,after:=af,guard:=gd } ρ (.sc (.int .i64 (Lib.indexByte a c.toNat.toUInt8))) :=
  PPOp.val (by simp) (fun B G act w hR E=>⟨.int .i64 (Lib.indexByte a c.toNat.toUInt8),by
    have e0:=conc_sc (E z (by simp [Op.operands,Call.operands]) _ hz)
    have e1:=conc_sc (E x (by simp [Op.operands,Call.operands]) _ h1)
    have e2:=conc_sc (E y (by simp [Op.operands,Call.operands]) _ h2)
    have:=exec_call (P0:=P) (ty:=ty) (pos:=pos) (af:=af) (args:=[x,y]) (ts:=ts) (dst:=dst) (g:=gd) (fs:=[]) (cs:=[]) (w:=w) act.eval e0
    rw [show (#[x,y] : Array Operand) = [x,y].toArray from rfl,this,hx.h]
    simp only [List.map_cons,List.map_nil,e1,e2,List.nil_append,List.append_nil]
    rw [Lib.run_indexByteString];rfl,.sc _⟩)
end
theorem idx_mem (c : UInt8) : ∀ (l : List UInt8),0 ≤ Lib.indexByte l c ↔ c ∈ l
  | []=>by simp [Lib.indexByte]
  | b :: l=>by
    have ih:=idx_mem c l
    have hge:=Lib.indexByte_ge l c
    unfold Lib.indexByte
    by_cases e : b = c
    · subst e;simp
    · simp only [beq_iff_eq,e,if_false,List.mem_cons]
      have e' : ¬ c = b:=fun h=>e h.symm
      simp only [e',false_or]
      split
      · rename_i h;rw [← ih,h]
      · rw [← ih];omega
end Go.AL
