/- Rules of the abstract logic: maps of one's own whose keys are integers or strings, whose values are integers: made, put, asked, counted. No condition. -/
import Derived.Test.YtjojdiefnhbglaaGreatOps21
import Derived.MapKept
set_option linter.all false
namespace Go.AL
class KeyT (P : Program) (t : TypeId) (κ : outParam Type) (kv : outParam (κ → Value)) : Prop where
  und : ∃ d,P.underlying t = some d ∧ (∀ a b,a = b → Instr.sameNow d (kv a) (kv b) = some true) ∧ (∀ a b,a ≠ b → Instr.sameNow d (kv a) (kv b) = some false)
  chk : ∀ (w : World) (e : Bool) (a : κ),(Instr.checkKey e 10000 t (kv a)).run P w = .ok () w
  bits : ∀ a,Instr.sameBits 10000 (kv a) (kv a) = true
abbrev kvI (a : Int) : Value:=.int .i64 a
abbrev kvS (a : List UInt8) : Value:=.string ⟨a.toArray⟩
theorem chk_step {P : Program} {t : TypeId} {d : TypeDesc} (hu : P.underlying t = some d) (w : World) (e : Bool) (n : Nat) (v : Value) (hd : (∀ a b,d ≠ .array a b) ∧ (∀ f,d ≠ .struct f) ∧ ∀ m,d ≠ .interface m) : (Instr.checkKey e (n + 1) t v).run P w = .ok () w:=by
  unfold Instr.checkKey
  simp only [Sem.run_bind,run_underlying hu,Result.andThen_ok]
  cases d <;> simp_all
instance {P : Program} {t : TypeId} [hu : Und P t (.int .i64)] : KeyT P t Int kvI where
  und:=⟨_,hu.h,fun a b e=>by simp [Instr.sameNow,e],fun a b e=>by simp [Instr.sameNow,e]⟩
  chk w e a:=chk_step hu.h w e 9999 _ ⟨by simp,by simp,by simp⟩
  bits a:=by simp [Instr.sameBits]
theorem bytes_beq (a b : List UInt8) : ((⟨a.toArray⟩ : ByteArray) == ⟨b.toArray⟩) = (a == b):=by
  show (a.toArray == b.toArray) = _
  simp
instance {P : Program} {t : TypeId} [hu : Und P t .string] : KeyT P t (List UInt8) kvS where
  und:=⟨_,hu.h,fun a b e=>by simp [Instr.sameNow,bytes_beq,e],fun a b e=>by simp [Instr.sameNow,bytes_beq,e]⟩
  chk w e a:=chk_step hu.h w e 9999 _ ⟨by simp,by simp,by simp⟩
  bits a:=by simp [Instr.sameBits,bytes_beq]
section
variable {κ : Type} [DecidableEq κ]
def idxM (a : κ) : List (κ × Int) → Option Nat
  | []=>none
  | p :: l=>if a = p.1 then some 0 else (idxM a l).map (· + 1)
def getM (a : κ) : List (κ × Int) → Int
  | []=>0
  | p :: l=>if a = p.1 then p.2 else getM a l
def hasM (a : κ) : List (κ × Int) → Bool
  | []=>false
  | p :: l=>if a = p.1 then true else hasM a l
def putM (a : κ) (v : Int) : List (κ × Int) → List (κ × Int)
  | []=>[(a,v)]
  | p :: l=>if a = p.1 then (a,v) :: l else p :: putM a v l
theorem idxM_put (a : κ) (v : Int) : ∀ es : List (κ × Int),putM a v es = match idxM a es with|none=>es ++ [(a,v)]|some j=>es.set j (a,v)
  | []=>rfl
  | p :: l=>by
    simp only [putM,idxM]
    by_cases h : a = p.1
    · simp [h]
    · rw [if_neg h,if_neg h,idxM_put a v l]
      cases idxM a l <;> simp
theorem idxM_get {a : κ} : ∀ {es : List (κ × Int)} {j : Nat},idxM a es = some j → es[j]? = some (a,getM a es) ∧ hasM a es = true
  | [],j,h=>by simp [idxM] at h
  | p :: l,j,h=>by
    simp only [idxM] at h
    simp only [getM,hasM]
    by_cases e : a = p.1
    · rw [if_pos e] at h ⊢;cases h
      rw [if_pos e];exact ⟨by rw [e];rfl,rfl⟩
    · rw [if_neg e] at h ⊢
      rw [if_neg e]
      cases h2 : idxM a l with
      | none=>rw [h2] at h;cases h
      | some i=>rw [h2] at h;cases h;exact ⟨by rw [List.getElem?_cons_succ];exact (idxM_get h2).1,(idxM_get h2).2⟩
theorem idxM_none {a : κ} : ∀ {es : List (κ × Int)},idxM a es = none → getM a es = 0 ∧ hasM a es = false
  | [],_=>⟨rfl,rfl⟩
  | p :: l,h=>by
    simp only [idxM] at h
    simp only [getM,hasM]
    by_cases e : a = p.1
    · rw [if_pos e] at h;cases h
    · rw [if_neg e] at h ⊢
      rw [if_neg e]
      cases h2 : idxM a l with
      | none=>exact idxM_none h2
      | some i=>rw [h2] at h;cases h
end
def encM {κ : Type} (kv : κ → Value) (p : κ × Int) : Value × Value:=(kv p.1,.int .i64 p.2)
abbrev mapA {κ : Type} (kv : κ → Value) (b : Nat) (es : List (κ × Int)) : AObj:=.mapo b (es.map (encM kv))
theorem mapEn_get (es : List (Value × Value)) (i : Nat) : (mapEn es)[i]? = es[i]?.map fun p=>({ key:=p.1,val:=p.2,born:=i } : MapEntry):=by
  unfold mapEn
  simp only [List.getElem?_toArray,List.getElem?_map,List.getElem?_zipIdx]
  cases es[i]? <;> simp
theorem mapEn_push (es : List (Value × Value)) (k v : Value) : (mapEn es).push { key:=k,val:=v,born:=es.length } = mapEn (es ++ [(k,v)]):=by
  unfold mapEn
  rw [List.zipIdx_append,List.map_append]
  simp
theorem mapEn_size (es : List (Value × Value)) : (mapEn es).size = es.length:=by simp [mapEn]
theorem mapEn_set (es : List (Value × Value)) (j : Nat) (k v : Value) : (mapEn es).modify j (fun e=>{ e with key:=k,val:=v }) = mapEn (es.set j (k,v)):=by
  refine Array.ext_getElem? fun i=>?_
  rw [Array.getElem?_modify,mapEn_get,mapEn_get,List.getElem?_set]
  by_cases h : j = i
  · subst h
    rw [if_pos rfl,if_pos rfl]
    rcases Nat.lt_or_ge j es.length with hl|hl
    · rw [if_pos hl,List.getElem?_eq_getElem hl];rfl
    · rw [if_neg (by omega),List.getElem?_eq_none hl];rfl
  · rw [if_neg h,if_neg h]
section
variable {P : Program} {t : TypeId} {κ : Type} [DecidableEq κ] {kv : κ → Value}
theorem find_en [K : KeyT P t κ kv] (a : κ) (w : World) (es : List (κ × Int)) : (Instr.findKey t (kv a) (mapEn (es.map (encM kv))).toList).run P w = .ok ((idxM a es).map fun j=>(j,.int .i64 (getM a es))) w:=by
  obtain ⟨d,h1,h2,h3⟩:=K.und
  have key : ∀ (l : List (κ × Int)) (n i : Nat),Instr.findNow d (kv a) (((l.map (encM kv)).zipIdx n).map fun p=>({ key:=p.1.1,val:=p.1.2,born:=p.2 } : MapEntry)) i = some ((idxM a l).map fun j=>(i + j,.int .i64 (getM a l))):=by
    intro l
    induction l with
    | nil=>intro n i;rfl
    | cons p l ih =>
      intro n i
      simp only [List.map_cons,List.zipIdx_cons,Instr.findNow,encM,idxM,getM]
      by_cases e : a = p.1
      · rw [h2 a p.1 e,if_pos e,if_pos e];simp
      · rw [h3 a p.1 e,if_neg e,if_neg e]
        simp only [ih]
        cases idxM a l with
        | none=>rfl
        | some j=>simp;omega
  have:=key es 0 0
  unfold Instr.findKey
  simp only [Sem.run_bind,run_underlying h1,Result.andThen_ok]
  rw [show (mapEn (es.map (encM kv))).toList = ((es.map (encM kv)).zipIdx.map fun p=>({ key:=p.1.1,val:=p.1.2,born:=p.2 } : MapEntry)) by simp [mapEn],this]
  simp
end
section
variable {P : Program} [GlobF P] {fr : Option Nat} {N : Nat} {Q : Exit → AS → Prop} {ops : Array Oper} {rest : List Oper} {rg : List (Nat × AV)} {h : List AObj} {mk : Mk} {ty : TypeId} {pos : String} {af : Array Edge} {d : Nat}
theorem RH.allocMap {B : Base P} {G : Gh} {h : List AObj} {w : World} (hr : RH B G h w) :
    G.le ⟨G.imm,fun r=>if r = h.length then some w.heap.size else G.blk r,G.tl⟩ ∧
      RH B ⟨G.imm,fun r=>if r = h.length then some w.heap.size else G.blk r,G.tl⟩ (h ++ [.mapo w.heap.size []]) { w with heap:=w.heap.push (.map #[] 0) }:=by
  have hle : G.le ⟨G.imm,fun r=>if r = h.length then some w.heap.size else G.blk r,G.tl⟩:=⟨fun _ _ _ e=>e,fun r b e=>by
    show (if r = h.length then some w.heap.size else G.blk r) = some b
    by_cases hrl : r = h.length
    · have:=(hr.fresh r (by omega)).1;rw [this] at e;cases e
    · rw [if_neg hrl];exact e,fun _ _ _ e=>e⟩
  have hold : ∀ b,b < w.heap.size → (w.heap.push (.map #[] 0))[b]? = w.heap[b]?:=fun b hb=>by
    rw [Array.getElem?_push_lt hb];exact (Array.getElem?_eq_getElem hb).symm
  refine ⟨hle,hr.allocObj _ hle rfl rfl rfl (Nat.le_refl _) (by simp) hold (fun _ _ _=>rfl) (fun b o v hv=>?_) (fun r hne=>⟨if_neg hne,fun _=>rfl⟩) ?_ (fun b hb=>?_)⟩
  · have:=hr.imm b o v hv
    unfold World.cell? at this ⊢
    simp only [hold b (hr.lt hv)];exact this
  · refine ⟨if_pos rfl,hr.size,fun o=>?_,by simp [mapEn]⟩
    show G.imm w.heap.size o = none
    cases hi : G.imm w.heap.size o with
    | none=>rfl
    | some v=>exact absurd (hr.lt hi) (by omega)
  · simp only [ownBlk,if_pos] at hb
    cases hb;exact Nat.le_refl _
theorem m_mkMap {t : TypeId} (hd : Nat.blt d N = true) (hk : ∀ b,WL P fr N ops rest Q ⟨(d,.sc (.map (some b))) :: rg,h ++ [.mapo b []],mk⟩) :
    WL P fr N ops ({ dst:=some d,op:=.makeMap t none,type:=ty,pos:=pos,after:=af,guard:=none } :: rest) Q ⟨rg,h,mk⟩:=by
  intro B G a w hr
  refine wpListIn_plain rfl fun K hK=>?_
  obtain ⟨hle,hr'⟩:=hr.heap.allocMap
  refine ⟨fun f _=>fence_fn fr f,?_⟩
  rw [Oper.semAt_eq _ _ _ (by simp)]
  have hrun : (execOp a.eval { dst:=some d,op:=.makeMap t none,type:=ty,pos:=pos,after:=af,guard:=none }).run P w = .ok (.value (.map (some w.heap.size))) { w with heap:=w.heap.push (.map #[] 0) }:=by
    simp [execOp,Instr.makeMap,Result.andThen]
  rw [hrun]
  exact hK _ _ (hk w.heap.size B _ _ _ ((hr.step hle hr').put (by simpa [Nat.blt_eq] using hd) (.sc _)))
section
variable {κ : Type} [DecidableEq κ] {kv : κ → Value} {gd : Option (Nat × Bool)} {dst : Option Nat} {ρ : Operand → Option AV} {t kt et : TypeId} {m k x : Operand} {a : κ} {v : Int} {b r : Nat} {es : List (κ × Int)}
theorem S_mapU [hu : Und P t (.map kt et)] [K : KeyT P kt κ kv] (hm : ρ m = some (.sc (.map (some b)))) (hk : ρ k = some (.sc (kv a))) (hx : ρ x = some (.sc (.int .i64 v))) (hr : h[r]? = some (mapA kv b es)) :
    POpS P { dst:=none,op:=.mapUpdate t m k x,type:=ty,pos:=pos,after:=af,guard:=gd } ρ h [r] (.sc undef) (some (r,mapA kv b (putM a v es))):=by
  intro fr B G act w h' hl hsl hR E
  have em:=conc_sc (E m (by first|exact List.Mem.head _|exact List.Mem.tail _ (List.Mem.head _)) _ hm)
  have ek:=conc_sc (E k (by exact List.Mem.tail _ (List.Mem.head _)) _ hk)
  have ex:=conc_sc (E x (by exact List.Mem.tail _ (List.Mem.tail _ (List.Mem.head _))) _ hx)
  have hr' : h'[r]? = some (mapA kv b es):=(hsl r (.head _)).trans hr
  obtain ⟨g1,g2,g3,g4⟩:=hR.obj r _ hr'
  have hb : b < w.heap.size:=(Array.getElem?_eq_some_iff.1 g4).1
  refine ⟨fun f _=>fence_fn fr f,?_⟩
  rw [Oper.semAt_eq _ _ _ (by simp)]
  have hput : ∃ es' : List (Value × Value),es' = (putM a v es).map (encM kv) ∧ (Instr.mapUpdate t (.map (some b)) (kv a) (.int .i64 v)).run P w = .ok () { w with heap:=w.heap.setIfInBounds b (.map (mapEn es') es'.length) }:=by
    refine ⟨_,rfl,?_⟩
    cases hi : idxM a es with
    | none =>
      have e1 : (putM a v es).map (encM kv) = es.map (encM kv) ++ [(kv a,.int .i64 v)]:=by rw [idxM_put,hi];simp [encM]
      have hf:=find_en (P:=P) (t:=kt) (kv:=kv) a w es
      rw [hi] at hf
      rw [e1]
      simp only [Instr.mapUpdate,Sem.run_bind,run_underlying hu.h,Result.andThen_ok,MapKept.run_getObj_map g4,K.chk,hf,Option.map_none,MapKept.run_setObj_map _ g4]
      rw [← mapEn_push];simp
    | some j =>
      have e1 : (putM a v es).map (encM kv) = (es.map (encM kv)).set j (kv a,.int .i64 v):=by rw [idxM_put,hi,List.map_set];rfl
      have hf:=find_en (P:=P) (t:=kt) (kv:=kv) a w es
      rw [hi] at hf
      rw [e1]
      have hj : ((mapEn (es.map (encM kv)))[j]?).map (·.key) = some (kv a):=by
        rw [mapEn_get,List.getElem?_map,(idxM_get hi).1];rfl
      simp only [Instr.mapUpdate,Sem.run_bind,run_underlying hu.h,Result.andThen_ok,MapKept.run_getObj_map g4,K.chk,hf,Option.map_some,hj,Option.getD_some,Instr.keyThatStays,K.bits a,if_true,Sem.run_pure,MapKept.run_setObj_map _ g4]
      rw [← mapEn_set];simp
  obtain ⟨es',rfl,hrun⟩:=hput
  have hex : (execOp act.eval { dst:=none,op:=.mapUpdate t m k x,type:=ty,pos:=pos,after:=af,guard:=gd }).run P w = .ok .skip { w with heap:=w.heap.setIfInBounds b (.map (mapEn ((putM a v es).map (encM kv))) ((putM a v es).map (encM kv)).length) }:=by
    simp only [execOp,em,ek,ex,Sem.run_bind,hrun,Result.andThen_ok,Sem.run_pure]
  rw [hex]
  refine ⟨undef,G,rfl,.refl G,?_,.sc _⟩
  refine hR.set (w':={ w with heap:=w.heap.setIfInBounds b (.map (mapEn ((putM a v es).map (encM kv))) ((putM a v es).map (encM kv)).length) }) (b:=b) hr' (by simp only [ownBlk];exact g1) g2 rfl rfl rfl (Nat.le_refl _) (by simp) (fun b' hb'=>by simp [Array.getElem?_setIfInBounds_ne (Ne.symm hb')]) (fun i v hi=>by rw [g3 i] at hi;cases hi) ?_ (fun c' hc'=>?_)
  · exact ⟨g1,g2,g3,by simp [hb]⟩
  · simp only [ownBlk] at hc';rw [g1] at hc';exact (Option.some.inj hc').symm
theorem D_mapG {hp : List AObj} [hu : Und P t (.map kt et)] [K : KeyT P kt κ kv] [hz : Zer P et (.int .i64 0)] (hm : ρ m = some (.sc (.map (some b)))) (hk : ρ k = some (.sc (kv a))) (hr : hp[r]? = some (mapA kv b es)) :
    POp P { dst:=dst,op:=.lookup t m k false,type:=ty,pos:=pos,after:=af,guard:=gd } ρ hp (.sc (.int .i64 (getM a es))) :=
  POp.val (by simp) fun B G act w hR E=>by
    have em:=conc_sc (E m (by first|exact List.Mem.head _|exact List.Mem.tail _ (List.Mem.head _)) _ hm)
    have ek:=conc_sc (E k (by exact List.Mem.tail _ (List.Mem.head _)) _ hk)
    obtain ⟨g1,g2,g3,g4⟩:=hR.obj r _ hr
    refine ⟨.int .i64 (getM a es),?_,.sc _⟩
    have hf:=find_en (P:=P) (t:=kt) (kv:=kv) a w es
    cases hi : idxM a es with
    | none =>
      rw [hi] at hf
      simp only [execOp,em,ek,Instr.lookup,Sem.run_bind,run_underlying hu.h,Result.andThen_ok,MapKept.run_getObj_map g4,Sem.run_pure,K.chk,hf,Option.map_none,hz.h,(idxM_none hi).1]
      rfl
    | some j =>
      rw [hi] at hf
      simp only [execOp,em,ek,Instr.lookup,Sem.run_bind,run_underlying hu.h,Result.andThen_ok,MapKept.run_getObj_map g4,Sem.run_pure,K.chk,hf,Option.map_some]
      rfl
end
theorem D_mapL {κ : Type} {kv : κ → Value} {gd : Option (Nat × Bool)} {dst : Option Nat} {ρ : Operand → Option AV} {t kt et : TypeId} {m : Operand} {b r : Nat} {es : List (κ × Int)} {hp : List AObj} [hu : Und P t (.map kt et)] (hm : ρ m = some (.sc (.map (some b)))) (hr : hp[r]? = some (mapA kv b es)) :
    POp P { dst:=dst,op:=.call { callee:=.builtin .len,args:=#[m],argTypes:=#[t] },type:=ty,pos:=pos,after:=af,guard:=gd } ρ hp (.sc (.int .i64 (es.length : Int))) :=
  POp.val (by simp) fun B G act w hR E=>by
    have em:=conc_sc (E m (by exact List.Mem.head _) _ hm)
    obtain ⟨g1,g2,g3,g4⟩:=hR.obj r _ hr
    refine ⟨.int .i64 es.length,exec_len _ ?_,.sc _⟩
    rw [em]
    simp [Builtin.len_,run_underlying hu.h,MapKept.run_getObj_map g4,goInt,mapEn_size]
end
end Go.AL
