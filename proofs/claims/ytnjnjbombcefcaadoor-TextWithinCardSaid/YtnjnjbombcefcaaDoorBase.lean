/- An abstract logic over the kit's fenced walk: abstract values, the relation between them and the machine's, the judgement on code, and its structural rules. No condition. -/
import Derived.CallsIn
import Derived.RangeFuncLeaves
import Derived.RangeFuncRecord
import Derived.OrdersIn
import Derived.Laws.World
import Derived.Laws.Cells
import Derived.Laws.Sem
import GoSem.ClaimData
import Derived.TacticsIn
import Derived.Laws.Slices
import Derived.Laws.NewBlocks
import Derived.Laws.Strings
import Derived.Laws.StructEq
import Derived.Shelf.Abstract
import Derived.Laws.BytesString
set_option linter.all false
namespace Go.AL
inductive AV where
  | any
  | sc (v : Value)
  | sl (tok : Option Nat) (k : Nat) (els : List (List AV))
  | ep (cells : List AV)
  | bp (r off : Nat)
  | mr (r o n : Nat)
  | mc (r n cap : Nat)
  | fn (f : Fn) (first caps : List AV)
  | ag (cells : List AV)
  | tu (vs : List AV)
instance : Inhabited AV:=⟨.any⟩
structure Gh where
  imm : Nat → Nat → Option Value
  blk : Nat → Option Nat
  tl : Nat → Nat → Option Value
inductive Conc (G : Gh) : Value → AV → Prop
  | any (v : Value) : Conc G v .any
  | sc (v : Value) : Conc G v (.sc v)
  | sl {b o cap k : Nat} {tok : Option Nat} {els : List (List AV)} (us : Nat → Nat → Value) (hk : ∀ e,e ∈ els → e.length = k) (hcap : els.length ≤ cap)
      (him : ∀ i j,i < els.length → j < k → G.imm b (o + i * k + j) = some (us i j))
      (hc : ∀ (i : Nat) (e : List AV) (j : Nat) (x : AV),els[i]? = some e → e[j]? = some x → Conc G (us i j) x)
      (ht : ∀ t,tok = some t → G.tl t els.length = some (.slice (some ⟨b,o,none⟩) els.length cap)) :
      Conc G (.slice (some ⟨b,o,none⟩) els.length cap) (.sl tok k els)
  | slnil {k : Nat} {tok : Option Nat} (ht : ∀ t,tok = some t → G.tl t 0 = some (.slice none 0 0)) : Conc G (.slice none 0 0) (.sl tok k [])
  | slz {a : Addr} {k : Nat} : Conc G (.slice (some a) 0 0) (.sl none k [])
  | ep {b o : Nat} {cells : List AV} (us : Nat → Value) (him : ∀ j,j < cells.length → G.imm b (o + j) = some (us j))
      (hc : ∀ (j : Nat) (x : AV),cells[j]? = some x → Conc G (us j) x) : Conc G (.pointer (some ⟨b,o,none⟩)) (.ep cells)
  | bp {r off b : Nat} (h : G.blk r = some b) : Conc G (.pointer (some ⟨b,off,none⟩)) (.bp r off)
  | mr {r o n cap b o' : Nat} (h : G.blk r = some b) (hc : n ≤ cap) (ho : 0 < n → o' = o) : Conc G (.slice (some ⟨b,o',none⟩) n cap) (.mr r o n)
  | mc {r n cap b : Nat} (h : G.blk r = some b) (hc : n ≤ cap) : Conc G (.slice (some ⟨b,0,none⟩) n cap) (.mc r n cap)
  | fn {f : Fn} {fs cs : List Value} {xs ys : List AV} (l1 : fs.length = xs.length) (l2 : cs.length = ys.length)
      (h1 : ∀ (i : Nat) (v : Value) (x : AV),fs[i]? = some v → xs[i]? = some x → Conc G v x)
      (h2 : ∀ (i : Nat) (v : Value) (x : AV),cs[i]? = some v → ys[i]? = some x → Conc G v x) : Conc G (.func f fs.toArray cs.toArray) (.fn f xs ys)
  | ag {cs : List Value} {xs : List AV} (l : cs.length = xs.length)
      (h : ∀ (i : Nat) (v : Value) (x : AV),cs[i]? = some v → xs[i]? = some x → Conc G v x) : Conc G (.agg cs.toArray) (.ag xs)
  | tu {cs : List Value} {xs : List AV} (l : cs.length = xs.length)
      (h : ∀ (i : Nat) (v : Value) (x : AV),cs[i]? = some v → xs[i]? = some x → Conc G v x) : Conc G (.tuple cs.toArray) (.tu xs)
def ConcL (G : Gh) (vs : List Value) (xs : List AV) : Prop :=
  vs.length = xs.length ∧ ∀ (i : Nat) (v : Value) (x : AV),vs[i]? = some v → xs[i]? = some x → Conc G v x
structure Gh.le (G G' : Gh) : Prop where
  imm : ∀ b o v,G.imm b o = some v → G'.imm b o = some v
  blk : ∀ r b,G.blk r = some b → G'.blk r = some b
  tl : ∀ r n v,G.tl r n = some v → G'.tl r n = some v
theorem Gh.le.refl (G : Gh) : G.le G:=⟨fun _ _ _ h=>h,fun _ _ h=>h,fun _ _ _ h=>h⟩
theorem Gh.le.trans {A B C : Gh} (h : A.le B) (h' : B.le C) : A.le C :=
  ⟨fun b o v e=>h'.imm b o v (h.imm b o v e),fun r b e=>h'.blk r b (h.blk r b e),fun r n v e=>h'.tl r n v (h.tl r n v e)⟩
theorem Conc.mono {G G' : Gh} (hg : G.le G') {v : Value} {x : AV} (h : Conc G v x) : Conc G' v x:=by
  induction h with
  | any v=>exact .any v
  | sc v=>exact .sc v
  | sl us hk hcap him hc ht ih=>exact .sl us hk hcap (fun i j hi hj=>hg.imm _ _ _ (him i j hi hj)) ih (fun t e=>hg.tl _ _ _ (ht t e))
  | slnil ht=>exact .slnil (fun t e=>hg.tl _ _ _ (ht t e))
  | slz=>exact .slz
  | ep us him hc ih=>exact .ep us (fun j hj=>hg.imm _ _ _ (him j hj)) ih
  | bp h=>exact .bp (hg.blk _ _ h)
  | mr h hc ho=>exact .mr (hg.blk _ _ h) hc ho
  | mc h hc=>exact .mc (hg.blk _ _ h) hc
  | fn l1 l2 h1 h2 ih1 ih2=>exact .fn l1 l2 ih1 ih2
  | ag l h ih=>exact .ag l ih
  | tu l h ih=>exact .tu l ih
theorem ConcL.mono {G G' : Gh} (hg : G.le G') {vs : List Value} {xs : List AV} (h : ConcL G vs xs) : ConcL G' vs xs :=
  ⟨h.1,fun i v x a b=>(h.2 i v x a b).mono hg⟩
theorem ConcL.nil (G : Gh) : ConcL G [] []:=⟨rfl,fun _ _ _ h=>by simp at h⟩
theorem ConcL.cons {G : Gh} {v : Value} {x : AV} {vs : List Value} {xs : List AV} (h : Conc G v x) (hs : ConcL G vs xs) : ConcL G (v :: vs) (x :: xs) :=
  ⟨by simp [hs.1],fun i u y a b=>by
    cases i with
    | zero=>simp at a b;subst a;subst b;exact h
    | succ i=>simp at a b;exact hs.2 i u y a b⟩
theorem ConcL.append {G : Gh} {vs vs' : List Value} {xs xs' : List AV} (h : ConcL G vs xs) (h' : ConcL G vs' xs') : ConcL G (vs ++ vs') (xs ++ xs') :=
  ⟨by simp [h.1,h'.1],fun i u y a b=>by
    rcases Nat.lt_or_ge i vs.length with hi|hi
    · rw [List.getElem?_append_left hi] at a
      rw [List.getElem?_append_left (h.1 ▸ hi)] at b
      exact h.2 i u y a b
    · rw [List.getElem?_append_right hi] at a
      rw [List.getElem?_append_right (h.1 ▸ hi)] at b
      rw [← h.1] at b
      exact h'.2 _ u y a b⟩
theorem ConcL.split {G : Gh} : ∀ {xs : List AV} {v : Value} {vs : List Value} {x : AV},ConcL G (v :: vs) (x :: xs) → Conc G v x ∧ ConcL G vs xs
  | xs,v,vs,x,h=>⟨h.2 0 v x rfl rfl,by have:=h.1;simp at this;exact this,fun i u y a b=>h.2 (i + 1) u y (by simpa using a) (by simpa using b)⟩
theorem ConcL.inv_nil {G : Gh} {vs : List Value} (h : ConcL G vs []) : vs = []:=by
  have:=h.1;simp at this;exact this
theorem ConcL.inv_cons {G : Gh} {vs : List Value} {x : AV} {xs : List AV} (h : ConcL G vs (x :: xs)) : ∃ v vs',vs = v :: vs' ∧ Conc G v x ∧ ConcL G vs' xs:=by
  cases vs with
  | nil=>have:=h.1;simp at this
  | cons v vs'=>exact ⟨v,vs',rfl,h.split⟩
inductive AObj where
  | dead
  | free
  | cells (xs : List AV) (ty : Option TypeId:=none)
  | tail (n k : Nat) (e : TypeId)
  | row (k : Nat) (e : TypeId) (els : List (List AV))
  | loopr (l N : Nat) (ps : Array Tmp) (assign body : Code) (rg : List (Nat × AV)) (st : LoopState) (pend : Option Code)
  | raw (o : Obj)
  | mapo (b : Nat) (es : List (Value × Value))
class GlobF (P : Program) where
  f : Nat → Nat → Option Value
  o : Nat → Option Obj:=fun _=>none
structure GlobW (P : Program) [GlobF P] (w : World) (imm : Nat → Nat → Option Value) : Prop where
  f : ∀ b o u,GlobF.f P b o = some u → imm b o = some u
  o : ∀ b x,GlobF.o P b = some x → w.heap[b]? = some x
structure Base (P : Program) [GlobF P] where
  w : World
  imm : Nat → Nat → Option Value
  g0 : Gh
  ok : ∀ b o v,GlobF.f P b o = some v → imm b o = some v ∧ b < w.heap.size
  ok2 : ∀ b x,GlobF.o P b = some x → w.heap[b]? = some x
def slBlock : Option Value → Option Nat
  | some (.slice (some a) _ _)=>some a.block
  | _=>none
abbrev BT (tp : Option TypeId) : Type:={ t : TypeId // ∀ T,tp = some T → t = T }
def ownBlk (G : Gh) (r : Nat) : AObj → Option Nat
  | .dead=>none
  | .free=>none
  | .cells _ _=>G.blk r
  | .raw _=>G.blk r
  | .mapo _ _=>G.blk r
  | .loopr _ _ _ _ _ _ _ _=>G.blk r
  | .tail n _ _=>slBlock (G.tl r n)
  | .row _ _ els=>slBlock (G.tl r els.length)
def mapEn (es : List (Value × Value)) : Array MapEntry:=(es.zipIdx.map fun p=>({ key:=p.1.1,val:=p.1.2,born:=p.2 } : MapEntry)).toArray
def look : List (Nat × AV) → Nat → AV
  | [],_=>.any
  | (u,v) :: l,t=>match Nat.beq u t with
    | true=>v
    | false=>look l t
section
variable {P : Program} [GlobF P]
def ObjOK (B : Base P) (G : Gh) (w : World) (r : Nat) : AObj → Prop
  | .dead=>True
  | .free=>G.blk r = none ∧ ∀ n,G.tl r n = none
  | .cells xs tp=>∃ (b : Nat) (c : List Value) (ty : BT tp),G.blk r = some b ∧ B.w.heap.size ≤ b ∧ w.heap[b]? = some (.cells c.toArray ty.1 (0,0)) ∧ ConcL G c xs ∧ ∀ o,G.imm b o = none
  | .raw o=>∃ b,G.blk r = some b ∧ B.w.heap.size ≤ b ∧ w.heap[b]? = some o ∧ ∀ i,G.imm b i = none
  | .mapo b es=>G.blk r = some b ∧ B.w.heap.size ≤ b ∧ (∀ i,G.imm b i = none) ∧ w.heap[b]? = some (.map (mapEn es) es.length)
  | .loopr l N ps assign body rg st pend=>G.blk r = some l ∧ B.w.heap.size ≤ l ∧ (∀ i,G.imm l i = none) ∧
      ∃ (fn : FuncId) (tm : Array Value) (db : Nat),w.heap[l]? = some (.loop { state:=st,pending:=pend,fn:=fn,tmps:=tm,params:=ps,assign:=assign,body:=body,defers:=db }) ∧ tm.size = N ∧ ∀ t,Conc G (tm.getD t undef) (look rg t)
  | .tail n k e=>(∀ j,n < j → G.tl r j = none) ∧ ((n = 0 ∧ G.tl r 0 = some (.slice none 0 0)) ∨
      ∃ (g cap : Nat) (c : Array Value),G.tl r n = some (.slice (some ⟨g,0,none⟩) n cap) ∧ B.w.heap.size ≤ g ∧ w.heap[g]? = some (.cells c e (0,0)) ∧
        n ≤ cap ∧ cap ≤ maxLen ∧ c.size = cap * k ∧ ∀ j,n * k ≤ j → G.imm g j = none)
  | .row k e els=>(∀ j,els.length < j → G.tl r j = none) ∧ (∀ x,x ∈ els → x.length = k) ∧ ((els = [] ∧ G.tl r 0 = some (.slice none 0 0)) ∨
      ∃ (g cap : Nat) (c : List Value),G.tl r els.length = some (.slice (some ⟨g,0,none⟩) els.length cap) ∧ B.w.heap.size ≤ g ∧ w.heap[g]? = some (.cells c.toArray e (0,0)) ∧
        els.length ≤ cap ∧ cap ≤ maxLen ∧ c.length = cap * k ∧ ConcL G (c.take (els.length * k)) els.flatten ∧ (∀ j,G.imm g j = none) ∧ G.blk r = some g)
structure RH (B : Base P) (G : Gh) (h : List AObj) (w : World) : Prop where
  base : B.g0.le G
  tape : w.tape = B.w.tape
  os : w.os = B.w.os
  output : w.output = B.w.output
  drawn : B.w.drawn ≤ w.drawn
  size : B.w.heap.size ≤ w.heap.size
  out : ∀ b,b < B.w.heap.size → w.heap[b]? = B.w.heap[b]?
  imm : ∀ b o v,G.imm b o = some v → w.cell? ⟨b,o,none⟩ = some v
  low : ∀ b o,b < B.w.heap.size → G.imm b o = B.imm b o
  obj : ∀ (r : Nat) (o : AObj),h[r]? = some o → ObjOK B G w r o
  inj : ∀ (r r' : Nat) (o o' : AObj) (b : Nat),h[r]? = some o → h[r']? = some o' → ownBlk G r o = some b → ownBlk G r' o' = some b → r = r'
  fresh : ∀ r,h.length ≤ r → G.blk r = none ∧ ∀ n,G.tl r n = none
theorem ownBlk.congr {G G' : Gh} {r : Nat} (hb : G'.blk r = G.blk r) (ht : ∀ n,G'.tl r n = G.tl r n) (o : AObj) : ownBlk G' r o = ownBlk G r o:=by
  cases o <;> simp only [ownBlk,hb,ht]
theorem ObjOK.keep {B : Base P} {G G' : Gh} {w w' : World} {r : Nat} {o : AObj} (hg : G.le G') (hb : G'.blk r = G.blk r) (ht : ∀ n,G'.tl r n = G.tl r n)
    (hh : ∀ b,ownBlk G r o = some b → b < w.heap.size → w'.heap[b]? = w.heap[b]? ∧ ∀ i,G.imm b i = none → G'.imm b i = none) (h : ObjOK B G w r o) : ObjOK B G' w' r o:=by
  have hlt : ∀ {b : Nat} {x : Obj},w.heap[b]? = some x → b < w.heap.size:=fun e=>(Array.getElem?_eq_some_iff.1 e).1
  cases o with
  | dead=>trivial
  | free=>exact ⟨hb.trans h.1,fun n=>(ht n).trans (h.2 n)⟩
  | cells xs =>
    obtain ⟨b,c,ty,g1,g2,g3,g4,g5⟩:=h
    obtain ⟨k1,k2⟩:=hh b g1 (hlt g3)
    exact ⟨b,c,ty,hb.trans g1,g2,k1.trans g3,g4.mono hg,fun o=>k2 o (g5 o)⟩
  | raw ob =>
    obtain ⟨b,g1,g2,g3,g4⟩:=h
    obtain ⟨k1,k2⟩:=hh b g1 (hlt g3)
    exact ⟨b,hb.trans g1,g2,k1.trans g3,fun o=>k2 o (g4 o)⟩
  | mapo b es =>
    obtain ⟨g1,g2,g3,g4⟩:=h
    obtain ⟨k1,k2⟩:=hh b g1 (hlt g4)
    exact ⟨hb.trans g1,g2,fun i=>k2 i (g3 i),k1.trans g4⟩
  | loopr l N ps assign body rg st pend =>
    obtain ⟨g1,g2,g3,fn,tm,db,g4,g5,g6⟩:=h
    obtain ⟨k1,k2⟩:=hh l g1 (hlt g4)
    exact ⟨hb.trans g1,g2,fun i=>k2 i (g3 i),fn,tm,db,k1.trans g4,g5,fun t=>(g6 t).mono hg⟩
  | tail n k e =>
    obtain ⟨g0,g⟩:=h
    refine ⟨fun j hj=>(ht j).trans (g0 j hj),?_⟩
    rcases g with ⟨g1,g2⟩ | ⟨b,cap,c,g1,g2,g3,g4,g5,g6,g7⟩
    · exact .inl ⟨g1,(ht 0).trans g2⟩
    · obtain ⟨k1,k2⟩:=hh b (by simp [ownBlk,slBlock,g1]) (hlt g3)
      exact .inr ⟨b,cap,c,(ht n).trans g1,g2,k1.trans g3,g4,g5,g6,fun j hj=>k2 j (g7 j hj)⟩
  | row k e els =>
    obtain ⟨g0,gk,g⟩:=h
    refine ⟨fun j hj=>(ht j).trans (g0 j hj),gk,?_⟩
    rcases g with ⟨g1,g2⟩ | ⟨b,cap,c,g1,g2,g3,g4,g5,g6,g7,g8⟩
    · exact .inl ⟨g1,(ht 0).trans g2⟩
    · obtain ⟨k1,k2⟩:=hh b (by simp [ownBlk,slBlock,g1]) (hlt g3)
      exact .inr ⟨b,cap,c,(ht els.length).trans g1,g2,k1.trans g3,g4,g5,g6,g7.mono hg,fun j=>k2 j (g8.1 j),hb.trans g8.2⟩
theorem ObjOK.own {B : Base P} {G : Gh} {w : World} {r : Nat} {o : AObj} (h : ObjOK B G w r o) {b : Nat} (hb : ownBlk G r o = some b) : b < w.heap.size ∧ B.w.heap.size ≤ b:=by
  have hlt : ∀ {b : Nat} {x : Obj},w.heap[b]? = some x → b < w.heap.size:=fun e=>(Array.getElem?_eq_some_iff.1 e).1
  cases o with
  | dead=>cases hb
  | free=>cases hb
  | cells xs=>obtain ⟨b',c,ty,g1,g2,g3,_⟩:=h;simp only [ownBlk] at hb;rw [g1] at hb;cases hb;exact ⟨hlt g3,g2⟩
  | raw ob=>obtain ⟨b',g1,g2,g3,_⟩:=h;simp only [ownBlk] at hb;rw [g1] at hb;cases hb;exact ⟨hlt g3,g2⟩
  | mapo b' es=>obtain ⟨g1,g2,g3,g4⟩:=h;simp only [ownBlk] at hb;rw [g1] at hb;cases hb;exact ⟨hlt g4,g2⟩
  | loopr l N ps assign body rg st pend=>obtain ⟨g1,g2,g3,fn,tm,db,g4,_⟩:=h;simp only [ownBlk] at hb;rw [g1] at hb;cases hb;exact ⟨hlt g4,g2⟩
  | tail n k e =>
    obtain ⟨_,h⟩:=h
    rcases h with ⟨hn,h0⟩ | ⟨b',cap,c,g1,g2,g3,_⟩
    · simp only [ownBlk,hn,h0,slBlock] at hb;cases hb
    · simp only [ownBlk,g1,slBlock] at hb;cases hb;exact ⟨hlt g3,g2⟩
  | row k e els =>
    obtain ⟨_,_,h⟩:=h
    rcases h with ⟨hn,h0⟩ | ⟨b',cap,c,g1,g2,g3,_⟩
    · subst hn;simp only [ownBlk,List.length_nil,h0,slBlock] at hb;cases hb
    · simp only [ownBlk,g1,slBlock] at hb;cases hb;exact ⟨hlt g3,g2⟩
theorem RH.lt {B : Base P} {G : Gh} {h : List AObj} {w : World} (hr : RH B G h w) {b o : Nat} {v : Value} (e : G.imm b o = some v) : b < w.heap.size:=by
  have:=hr.imm b o v e
  unfold World.cell? at this
  rcases Nat.lt_or_ge b w.heap.size with h|h
  · exact h
  · simp [Array.getElem?_eq_none h] at this
theorem RH.glob {B : Base P} {G : Gh} {h : List AObj} {w : World} (hr : RH B G h w) (b o : Nat) (u : Value) (e : GlobF.f P b o = some u) : G.imm b o = some u:=by
  obtain ⟨h1,h2⟩:=B.ok b o u e
  rw [hr.low b o h2];exact h1
theorem RH.globW {B : Base P} {G : Gh} {h : List AObj} {w : World} (hr : RH B G h w) : GlobW P w G.imm :=
  ⟨hr.glob,fun b x e=>by
    have h1:=B.ok2 b x e
    rw [hr.out b (Array.getElem?_eq_some_iff.1 h1).1];exact h1⟩
theorem RH.turn {B : Base P} {G G' : Gh} {h h' : List AObj} {w w' : World} (hr : RH B G h w) (hg : B.g0.le G') (ht : w'.tape = w.tape) (hos : w'.os = w.os) (hout : w'.output = w.output) (hdr : w.drawn ≤ w'.drawn)
    (hsz : w.heap.size ≤ w'.heap.size) (hold : ∀ b,b < B.w.heap.size → w'.heap[b]? = w.heap[b]?) (hlow : ∀ b o,b < B.w.heap.size → G'.imm b o = G.imm b o)
    (him : ∀ b o v,G'.imm b o = some v → w'.cell? ⟨b,o,none⟩ = some v)
    (hobj : ∀ r o,h'[r]? = some o → ObjOK B G' w' r o)
    (hown : ∀ r o b,h'[r]? = some o → ownBlk G' r o = some b → w.heap.size ≤ b ∨ ∃ o0,h[r]? = some o0 ∧ ownBlk G r o0 = some b)
    (hnew : ∀ r r' o o' b,h'[r]? = some o → h'[r']? = some o' → ownBlk G' r o = some b → ownBlk G' r' o' = some b → w.heap.size ≤ b → r = r')
    (hfr : ∀ r,h'.length ≤ r → G'.blk r = none ∧ ∀ n,G'.tl r n = none) : RH B G' h' w':=by
  refine ⟨hg,ht.trans hr.tape,hos.trans hr.os,hout.trans hr.output,Nat.le_trans hr.drawn hdr,Nat.le_trans hr.size hsz,fun b hb=>(hold b hb).trans (hr.out b hb),him,fun b o hb=>(hlow b o hb).trans (hr.low b o hb),hobj,?_,hfr⟩
  intro r r' o o' b h1 h2 h3 h4
  rcases hown r o b h1 h3 with e | ⟨o0,k1,k2⟩
  · exact hnew r r' o o' b h1 h2 h3 h4 e
  · rcases hown r' o' b h2 h4 with e | ⟨o0',k1',k2'⟩
    · exact hnew r r' o o' b h1 h2 h3 h4 e
    · exact hr.inj r r' o0 o0' b k1 k1' k2 k2'
end
structure Mk where
  l : List Nat
  n0 : Nat
structure AS where
  regs : List (Nat × AV)
  heap : List AObj
  marks : Mk
def AS.put (s : AS) (t : Nat) (v : AV) : AS:={ s with regs:=(t,v) :: s.regs }
def AS.ev (s : AS) : Operand → AV
  | .tmp t=>look s.regs t
  | .const v=>.sc v
  | .global g=>.sc (.pointer (some ⟨g,0,none⟩))
  | .func f=>.sc (.func (.func f) #[] #[])
def lookO : List (Nat × AV) → Nat → Option AV
  | [],_=>some .any
  | (u,v) :: l,t=>match Nat.beq u t with
    | true=>some v
    | false=>lookO l t
theorem lookO_eq : ∀ {l : List (Nat × AV)} {t : Nat} {v : AV},lookO l t = some v → look l t = v
  | [],t,v,h=>by simp [lookO] at h;simp [look,h]
  | (u,x) :: l,t,v,h=>by
    simp only [lookO] at h
    simp only [look]
    cases hb : Nat.beq u t with
    | true=>rw [hb] at h;simp at h;exact h
    | false=>rw [hb] at h;exact lookO_eq h
def AS.evO (s : AS) : Operand → Option AV
  | .tmp t=>lookO s.regs t
  | .const v=>some (.sc v)
  | .global g=>some (.sc (.pointer (some ⟨g,0,none⟩)))
  | .func f=>some (.sc (.func (.func f) #[] #[]))
theorem AS.evO_eq {s : AS} {x : Operand} {v : AV} (h : s.evO x = some v) : s.ev x = v:=by
  cases x with
  | tmp t=>exact lookO_eq h
  | const c=>simp [AS.evO] at h;exact h
  | global g=>simp [AS.evO] at h;exact h
  | func f=>simp [AS.evO] at h;exact h
section
variable {P : Program} [GlobF P]
structure R (B : Base P) (N : Nat) (G : Gh) (s : AS) (a : Act) (w : World) : Prop where
  heap : RH B G s.heap w
  size : a.tmps.size = N
  regs : ∀ t,Conc G (a.tmps.getD t undef) (look s.regs t)
  defers : a.defers.length = s.marks.l.length ∧ ∀ (i : Nat) (d : Deferred) (r : Nat),a.defers[i]? = some d → s.marks.l[i]? = some r → ∃ b,G.blk r = some b ∧ d = { target:=.collected b,args:=#[] }
  own : ∀ r,s.marks.n0 ≤ r → B.g0.blk r = none ∧ ∀ n,B.g0.tl r n = none
theorem R.ev {B : Base P} {N : Nat} {G : Gh} {s : AS} {a : Act} {w : World} (h : R B N G s a w) (x : Operand) : Conc G (a.eval x) (s.ev x):=by
  cases x with
  | tmp t=>exact h.regs t
  | const v=>exact .sc v
  | global g=>exact .sc _
  | func f=>exact .sc _
theorem R.put {B : Base P} {N : Nat} {G : Gh} {s : AS} {a : Act} {w : World} (h : R B N G s a w) {d : Nat} (hd : d < N) {v : Value} {x : AV} (hv : Conc G v x) :
    R B N G (s.put d x) (a.put (some d) v) w:=by
  refine ⟨h.heap,by simp [Act.put,h.size],fun t=>?_,h.defers,h.own⟩
  simp only [AS.put,look,Act.put]
  cases hb : Nat.beq d t with
  | true =>
    have : d = t:=Nat.eq_of_beq_eq_true hb
    subst this
    simp [Array.getD_eq_getD_getElem?,h.size,hd,hv]
  | false =>
    have hne : d ≠ t:=fun e=>by subst e;simp at hb
    have:=h.regs t
    simp only [Array.getD_eq_getD_getElem?,Array.getElem?_setIfInBounds_ne hne] at this ⊢
    exact this
theorem R.step {B : Base P} {N : Nat} {G G' : Gh} {s : AS} {a : Act} {w w' : World} {h' : List AObj} (h : R B N G s a w) (hg : G.le G') (hh : RH B G' h' w') :
    R B N G' { s with heap:=h' } a w' :=
  ⟨hh,h.size,fun t=>(h.regs t).mono hg,⟨h.defers.1,fun i d r hd hr=>let ⟨b,e,f⟩:=h.defers.2 i d r hd hr;⟨b,hg.blk _ _ e,f⟩⟩,h.own⟩
end
def fence : Option Nat → Fence
  | none=>Fence.wide
  | some l=>Fence.wide.inRound l
def Post {P : Program} [GlobF P] (B : Base P) (N : Nat) (Q : Exit → AS → Prop) : Exit → Act → World → Prop :=
  fun e a w=>∃ G' s,R B N G' s a w ∧ Q e s
def W (P : Program) [GlobF P] (fr : Option Nat) (N : Nat) (c : Code) (Q : Exit → AS → Prop) (s : AS) : Prop :=
  ∀ (B : Base P) (G : Gh) (a : Act) (w : World),R B N G s a w → c.wpIn (fence fr) 0 P (Post B N Q) a w
section
variable {P : Program} [GlobF P] {fr : Option Nat} {N : Nat} {Q : Exit → AS → Prop} {s : AS}
theorem W_skip (h : Q .normal s) : W P fr N .skip Q s:=fun _ G _ _ hr=>wpIn_skip ⟨G,s,hr,h⟩
theorem W_label {l : Nat} (h : Q .normal s) : W P fr N (.label l) Q s:=fun _ G _ _ hr=>wpIn_label ⟨G,s,hr,h⟩
theorem W_exit {id : Nat} (h : Q (.exit id) s) : W P fr N (.exit id) Q s:=fun _ G _ _ hr=>wpIn_exit ⟨G,s,hr,h⟩
theorem W_ret (h : Q .ret s) : W P fr N .ret Q s:=fun _ G _ _ hr=>wpIn_ret ⟨G,s,hr,h⟩
def thn (next : AS → Prop) (Q : Exit → AS → Prop) : Exit → AS → Prop
  | .normal,s=>next s
  | e,s=>Q e s
theorem W_seq {x y : Code} (h : W P fr N x (thn (W P fr N y Q) Q) s) : W P fr N (.seq x y) Q s:=by
  intro B G a w hr
  refine wpIn_seq (wpIn_mono (h B G a w hr) ?_)
  rintro e a' w' ⟨G',s',hr',hq⟩
  cases e <;> simp only [thn,Exit.then] at hq ⊢ <;> first|exact hq B G' a' w' hr'|exact ⟨G',s',hr',hq⟩
def inBlk (id : Nat) (Q : Exit → AS → Prop) : Exit → AS → Prop
  | .exit i,s=>match Nat.beq i id with
    | true=>Q .normal s
    | false=>Q (.exit i) s
  | e,s=>Q e s
theorem W_block {id : Nat} {c : Code} (h : W P fr N c (inBlk id Q) s) : W P fr N (.block id c) Q s:=by
  intro B G a w hr
  refine wpIn_block (wpIn_mono (h B G a w hr) ?_)
  rintro e a' w' ⟨G',s',hr',hq⟩
  cases e with
  | exit i =>
    simp only [inBlk,Exit.inBlock] at hq ⊢
    cases hb : Nat.beq i id with
    | true =>
      rw [hb] at hq
      rw [if_pos (Nat.eq_of_beq_eq_true hb)];exact ⟨G',s',hr',hq⟩
    | false =>
      rw [hb] at hq
      have hne : i ≠ id:=fun e=>by subst e;simp at hb
      rw [if_neg hne];exact ⟨G',s',hr',hq⟩
  | _=>exact ⟨G',s',hr',hq⟩
theorem conc_sc {G : Gh} {v u : Value} (h : Conc G v (.sc u)) : v = u:=by cases h;rfl
theorem W_condT {c : Operand} {x y : Code} (hc : s.ev c = .sc (.bool true)) (h : W P fr N x Q s) : W P fr N (.cond c x y) Q s :=
  fun B G a w hr=>wpIn_cond_true (conc_sc (hc ▸ hr.ev c)) (h B G a w hr)
theorem W_condF {c : Operand} {x y : Code} (hc : s.ev c = .sc (.bool false)) (h : W P fr N y Q s) : W P fr N (.cond c x y) Q s :=
  fun B G a w hr=>wpIn_cond_false (conc_sc (hc ▸ hr.ev c)) (h B G a w hr)
theorem W_cond {c : Operand} {x y : Code} {b : Bool} (hc : s.ev c = .sc (.bool b)) (ht : b = true → W P fr N x Q s) (hf : b = false → W P fr N y Q s) : W P fr N (.cond c x y) Q s :=
  fun B G a w hr=>wpIn_cond_split (conc_sc (hc ▸ hr.ev c)) (fun e=>ht e B G a w hr) (fun e=>hf e B G a w hr)
theorem least (p : Nat → Prop) (h : ∃ n,p n) : ∃ n,p n ∧ ∀ m,p m → n ≤ m:=by
  obtain ⟨n,hn⟩:=h
  induction n using Nat.strongRecOn with
  | _ n ih =>
    by_cases hex : ∃ m,m < n ∧ p m
    · obtain ⟨m,hlt,hm⟩:=hex;exact ih m hlt hm
    · exact ⟨n,hn,fun m hm=>by
        rcases Nat.lt_or_ge m n with hl|hl
        · exact absurd ⟨m,hl,hm⟩ hex
        · exact hl⟩
end
end Go.AL

namespace Go.AL
section
variable {P : Program} [GlobF P] {fr : Option Nat} {N : Nat} {Q : Exit → AS → Prop} {s : AS} {ops : Array Oper} {rest : List Oper}
def WL (P : Program) [GlobF P] (fr : Option Nat) (N : Nat) (ops : Array Oper) (l : List Oper) (Q : Exit → AS → Prop) (s : AS) : Prop :=
  ∀ (B : Base P) (G : Gh) (a : Act) (w : World),R B N G s a w → wpListIn (fence fr) 0 P ops (Post B N Q) l a w
theorem W_region {id : Nat} {l : List Oper} (h : WL P fr N l.toArray l Q s) : W P fr N (.region id l.toArray false) Q s :=
  fun B G a w hr=>wpIn_region_lit (h B G a w hr)
theorem WL_nil (h : Q .normal s) : WL P fr N ops [] Q s:=fun _ G _ _ hr=>wpListIn_nil ⟨G,s,hr,h⟩
theorem fence_fn (fr : Option Nat) (f : FuncId) : (fence fr).fn f:=by cases fr <;> trivial
theorem fence_depth (fr : Option Nat) : (fence fr).depth = none:=by cases fr <;> rfl
theorem WL_op {op : Op} {ty : TypeId} {pos : String} {af : Array Edge} {d : Nat} {x : AV} {h' : List AObj} (hd : Nat.blt d N = true) (hdef : ∀ c,op ≠ .defer c)
    (hop : ∀ (B : Base P) (G : Gh) (a : Act) (w : World),R B N G s a w → ∃ v w' G',(execOp a.eval { dst:=some d,op:=op,type:=ty,pos:=pos,after:=af,guard:=none }).run P w = .ok (.value v) w' ∧
      G.le G' ∧ RH B G' h' w' ∧ Conc G' v x)
    (h : WL P fr N ops rest Q (({ s with heap:=h' } : AS).put d x)) : WL P fr N ops ({ dst:=some d,op:=op,type:=ty,pos:=pos,after:=af,guard:=none } :: rest) Q s:=by
  intro B G a w hr
  refine wpListIn_plain rfl fun K hK=>?_
  obtain ⟨v,w',G',hrun,hg',hh,hv⟩:=hop B G a w hr
  refine ⟨fun f _=>fence_fn fr f,?_⟩
  rw [Oper.semAt_eq _ _ _ hdef,hrun]
  exact hK _ _ (h B G' _ w' ((hr.step hg' hh).put (by simpa [Nat.blt_eq] using hd) hv))
def gdst (ops : Array Oper) (j : Nat) : Option Nat:=(ops[j]?).bind (·.dst)
theorem yielded_of {B : Base P} {G : Gh} {a : Act} {w : World} {j t : Nat} {b : Bool} (hj : gdst ops j = some t) (hr : R B N G s a w) (hb : look s.regs t = .sc (.bool b)) : yielded ops a.tmps j = some b:=by
  unfold gdst at hj
  have h1:=hr.regs t
  rw [hb] at h1
  have h2:=conc_sc h1
  rw [Array.getD_eq_getD_getElem?] at h2
  unfold yielded
  rw [hj]
  simp only [Option.bind_some]
  cases h3 : a.tmps[t]? with
  | none=>rw [h3] at h2;simp [undef] at h2
  | some v=>rw [h3] at h2;simp at h2;subst h2;rfl
theorem WL_guard_run {o : Oper} {j t : Nat} {want : Bool} (ho : o.guard = some (j,want)) (hj : gdst ops j = some t) (hb : look s.regs t = .sc (.bool want))
    (h : WL P fr N ops ({ o with guard:=none } :: rest) Q s) : WL P fr N ops (o :: rest) Q s:=by
  intro B G a w hr
  have hy:=yielded_of hj hr hb
  have:=h B G a w hr
  simp only [wpListIn,Region.wanted,ho,hy] at this ⊢
  simpa [Oper.wpIn,Oper.about,Oper.semAt,execOp,Oper.uponIn] using this
theorem WL_guard_skip {o : Oper} {j t d : Nat} {want b : Bool} (ho : o.guard = some (j,want)) (hdst : o.dst = some d) (hd : Nat.blt d N = true) (hj : gdst ops j = some t) (hb : look s.regs t = .sc (.bool b)) (hne : (b == want) = false)
    (h : WL P fr N ops rest Q (s.put d (.sc undef))) : WL P fr N ops (o :: rest) Q s:=by
  intro B G a w hr
  have hy:=yielded_of hj hr hb
  have hw : Region.wanted o (yielded ops a.tmps) = false:=by
    simp only [Region.wanted,ho,hy]
    cases b <;> cases want <;> simp at hne ⊢
  simp only [wpListIn,hw]
  refine ⟨fun f _=>fence_fn fr f,?_⟩
  rw [hdst]
  exact h B G _ w (hr.put (by simpa [Nat.blt_eq] using hd) (.sc _))
theorem yielded_undef {B : Base P} {G : Gh} {a : Act} {w : World} {j t : Nat} (hj : gdst ops j = some t) (hr : R B N G s a w) (hb : look s.regs t = .sc undef) : yielded ops a.tmps j = none:=by
  unfold gdst at hj
  have h1:=hr.regs t
  rw [hb] at h1
  have h2:=conc_sc h1
  rw [Array.getD_eq_getD_getElem?] at h2
  unfold yielded
  rw [hj]
  simp only [Option.bind_some]
  cases h3 : a.tmps[t]? with
  | none=>rfl
  | some v=>rw [h3] at h2;simp at h2;subst h2;rfl
theorem WL_guard_undef {o : Oper} {j t d : Nat} {want : Bool} (ho : o.guard = some (j,want)) (hdst : o.dst = some d) (hd : Nat.blt d N = true) (hj : gdst ops j = some t) (hb : look s.regs t = .sc undef)
    (h : WL P fr N ops rest Q (s.put d (.sc undef))) : WL P fr N ops (o :: rest) Q s:=by
  intro B G a w hr
  have hy:=yielded_undef hj hr hb
  have hw : Region.wanted o (yielded ops a.tmps) = false:=by
    simp only [Region.wanted,ho,hy];rfl
  simp only [wpListIn,hw]
  refine ⟨fun f _=>fence_fn fr f,?_⟩
  rw [hdst]
  exact h B G _ w (hr.put (by simpa [Nat.blt_eq] using hd) (.sc _))
theorem WL_split {t : Nat} {b : Bool} {l : List Oper} (hb : look s.regs t = .sc (.bool b)) (ht : b = true → WL P fr N ops l Q (s.put t (.sc (.bool true)))) (hf : b = false → WL P fr N ops l Q (s.put t (.sc (.bool false)))) :
    WL P fr N ops l Q s:=by
  intro B G a w hr
  have key : ∀ c,b = c → R B N G (s.put t (.sc (.bool c))) a w:=fun c hc=>⟨hr.heap,hr.size,fun u=>by
    simp only [AS.put,look]
    cases hbq : Nat.beq t u with
    | true=>have : t = u:=Nat.eq_of_beq_eq_true hbq;subst this;have:=hr.regs t;rw [hb,hc] at this;exact this
    | false=>exact hr.regs u,hr.defers,hr.own⟩
  cases b with
  | true=>exact ht rfl B G a w (key true rfl)
  | false=>exact hf rfl B G a w (key false rfl)
theorem WL_gsplit {o : Oper} {j t : Nat} {want b : Bool} (_ho : o.guard = some (j,want)) (_hj : gdst ops j = some t) (hb : look s.regs t = .sc (.bool b)) (ht : b = true → WL P fr N ops (o :: rest) Q (s.put t (.sc (.bool true))))
    (hf : b = false → WL P fr N ops (o :: rest) Q (s.put t (.sc (.bool false)))) : WL P fr N ops (o :: rest) Q s:=WL_split hb ht hf
def POp (P : Program) [GlobF P] (o : Oper) (ρ : Operand → Option AV) (hp : List AObj) (v : AV) : Prop :=
  ∀ (fr : Option Nat) (B : Base P) (G : Gh) (a : Act) (w : World),RH B G hp w → (∀ x,x ∈ o.op.operands.toList → ∀ u,ρ x = some u → Conc G (a.eval x) u) →
    o.wpIn (fence fr) 0 P a w (fun a' w'=>∃ r G',a' = a.put o.dst r ∧ G.le G' ∧ RH B G' hp w' ∧ Conc G' r v) (fun _ _ _=>False)
theorem POp.op {o : Oper} {ρ : Operand → Option AV} {hp : List AObj} {v : AV} (hdef : ∀ c,o.op ≠ .defer c)
    (h : ∀ (B : Base P) (G : Gh) (a : Act) (w : World),RH B G hp w → (∀ x,x ∈ o.op.operands.toList → ∀ u,ρ x = some u → Conc G (a.eval x) u) →
      ∃ r w' G',(execOp a.eval o).run P w = .ok (.value r) w' ∧ G.le G' ∧ RH B G' hp w' ∧ Conc G' r v) : POp P o ρ hp v:=by
  intro fr B G a w hr hE
  obtain ⟨r,w',G',h1,h2,h3,h4⟩:=h B G a w hr hE
  refine ⟨fun f _=>fence_fn fr f,?_⟩
  rw [Oper.semAt_eq _ _ _ hdef,h1]
  exact ⟨r,G',rfl,h2,h3,h4⟩
theorem POp.val {o : Oper} {ρ : Operand → Option AV} {hp : List AObj} {v : AV} (hdef : ∀ c,o.op ≠ .defer c)
    (h : ∀ (B : Base P) (G : Gh) (a : Act) (w : World),RH B G hp w → (∀ x,x ∈ o.op.operands.toList → ∀ u,ρ x = some u → Conc G (a.eval x) u) →
      ∃ r,(execOp a.eval o).run P w = .ok (.value r) w ∧ Conc G r v) : POp P o ρ hp v :=
  POp.op hdef fun B G a w hr hE=>let ⟨r,h1,h2⟩:=h B G a w hr hE;⟨r,w,G,h1,.refl G,hr,h2⟩
def PPOp (P : Program) [GlobF P] (o : Oper) (ρ : Operand → Option AV) (v : AV) : Prop:=∀ hp,POp P o ρ hp v
theorem PPOp.op {o : Oper} {ρ : Operand → Option AV} {v : AV} (hdef : ∀ c,o.op ≠ .defer c)
    (h : ∀ {hp : List AObj} (B : Base P) (G : Gh) (a : Act) (w : World),RH B G hp w → (∀ x,x ∈ o.op.operands.toList → ∀ u,ρ x = some u → Conc G (a.eval x) u) →
      ∃ r w' G',(execOp a.eval o).run P w = .ok (.value r) w' ∧ G.le G' ∧ RH B G' hp w' ∧ Conc G' r v) : PPOp P o ρ v:=fun _=>POp.op hdef fun B G a w hr hE=>h B G a w hr hE
theorem PPOp.val {o : Oper} {ρ : Operand → Option AV} {v : AV} (hdef : ∀ c,o.op ≠ .defer c)
    (h : ∀ {hp : List AObj} (B : Base P) (G : Gh) (a : Act) (w : World),RH B G hp w → (∀ x,x ∈ o.op.operands.toList → ∀ u,ρ x = some u → Conc G (a.eval x) u) →
      ∃ r,(execOp a.eval o).run P w = .ok (.value r) w ∧ Conc G r v) : PPOp P o ρ v:=fun _=>POp.val hdef fun B G a w hr hE=>h B G a w hr hE
theorem evO_some (s : AS) (x : Operand) : s.evO x = some (s.ev x):=by
  cases x with
  | tmp t =>
    simp only [AS.evO,AS.ev]
    generalize s.regs = l
    induction l with
    | nil=>rfl
    | cons p l ih=>obtain ⟨u,v⟩:=p;simp only [lookO,look];cases Nat.beq u t <;> simp [ih]
  | const v=>rfl
  | global g=>rfl
  | func f=>rfl
theorem wpIn_false {P0 : Program} {F : Fence} {o : Oper} {a : Act} {w : World} {K K' : Act → World → Prop} {Q' : Exit → Act → World → Prop} (hK : ∀ a w,K a w → K' a w) (h : o.wpIn F 0 P0 a w K (fun _ _ _=>False)) : o.wpIn F 0 P0 a w K' Q':=by
  refine ⟨h.1,?_⟩
  have h:=h.2
  generalize (o.semAt F.round a.eval).run P0 w = r at *
  cases r with
  | ok x w' =>
    cases x <;> simp only [Oper.uponIn] at h ⊢ <;> first
      | exact hK _ _ h
      | exact ⟨h.1,CallsIn.mono h.2 (fun e w'' he=>by cases e <;> first|exact hK _ _ he|exact he.elim|(obtain ⟨_,_,hf⟩:=he;exact hf.elim))⟩
      | exact ⟨h.1,RowsIn.mono h.2 (fun _ _ he=>hK _ _ he)⟩
      | exact ⟨h.1,RoundIn.mono h.2 (fun e w'' he=>by cases e <;> first|exact hK _ _ he|exact he.elim|(obtain ⟨_,_,hf⟩:=he;exact hf.elim))⟩
  | halt x w'=>cases x <;> simp only [Oper.uponIn] at h ⊢
theorem WL_p {op : Op} {ty : TypeId} {pos : String} {af : Array Edge} {d : Nat} {v : AV} (hop : POp P { dst:=some d,op:=op,type:=ty,pos:=pos,after:=af,guard:=none } s.evO s.heap v) (hd : Nat.blt d N = true)
    (h : WL P fr N ops rest Q (s.put d v)) : WL P fr N ops ({ dst:=some d,op:=op,type:=ty,pos:=pos,after:=af,guard:=none } :: rest) Q s:=by
  intro B G a w hr
  refine wpListIn_plain rfl fun K hK=>?_
  refine wpIn_false ?_ (hop fr B G a w hr.heap fun x _ u hu=>by rw [evO_some] at hu;cases hu;exact hr.ev x)
  rintro a' w' ⟨r,G',rfl,hg',hh,hv⟩
  exact hK _ _ (h B G' _ w' ((hr.step hg' hh).put (by simpa [Nat.blt_eq] using hd) hv))
section ops
variable {ty : TypeId} {pos : String} {af : Array Edge} {dst : Option Nat} {gd : Option (Nat × Bool)} {ρ : Operand → Option AV} {hp : List AObj}
theorem D_move {x : Operand} {v : AV} (hx : ρ x = some v) : PPOp P { dst:=dst,op:=.move x,type:=ty,pos:=pos,after:=af,guard:=gd } ρ v :=
  PPOp.val (by simp) (fun B G a w hR E=>⟨a.eval x,rfl,E _ (by first|exact List.Mem.head _|exact List.Mem.tail _ (List.Mem.head _)|exact List.Mem.tail _ (List.Mem.tail _ (List.Mem.head _))) _ hx⟩)
theorem D_assign {x : Operand} {v : AV} (hx : ρ x = some v) : PPOp P { dst:=dst,op:=.assign x,type:=ty,pos:=pos,after:=af,guard:=gd } ρ v :=
  PPOp.val (by simp) (fun B G a w hR E=>⟨a.eval x,rfl,E _ (by first|exact List.Mem.head _|exact List.Mem.tail _ (List.Mem.head _)|exact List.Mem.tail _ (List.Mem.tail _ (List.Mem.head _))) _ hx⟩)
theorem D_pickT {c x y : Operand} {v : AV} (hc : ρ c = some (.sc (.bool true))) (hx : ρ x = some v) : PPOp P { dst:=dst,op:=.pick c x y,type:=ty,pos:=pos,after:=af,guard:=gd } ρ v :=
  PPOp.val (by simp) (fun B G a w hR E=>⟨a.eval x,by simp [execOp,conc_sc (E _ (by first|exact List.Mem.head _|exact List.Mem.tail _ (List.Mem.head _)|exact List.Mem.tail _ (List.Mem.tail _ (List.Mem.head _))) _ hc),asBool],E _ (by first|exact List.Mem.head _|exact List.Mem.tail _ (List.Mem.head _)|exact List.Mem.tail _ (List.Mem.tail _ (List.Mem.head _))) _ hx⟩)
theorem D_pickF {c x y : Operand} {v : AV} (hc : ρ c = some (.sc (.bool false))) (hx : ρ y = some v) : PPOp P { dst:=dst,op:=.pick c x y,type:=ty,pos:=pos,after:=af,guard:=gd } ρ v :=
  PPOp.val (by simp) (fun B G a w hR E=>⟨a.eval y,by simp [execOp,conc_sc (E _ (by first|exact List.Mem.head _|exact List.Mem.tail _ (List.Mem.head _)|exact List.Mem.tail _ (List.Mem.tail _ (List.Mem.head _))) _ hc),asBool],E _ (by first|exact List.Mem.head _|exact List.Mem.tail _ (List.Mem.head _)|exact List.Mem.tail _ (List.Mem.tail _ (List.Mem.head _))) _ hx⟩)
@[irreducible] def iEq (a b : Int) : Bool:=a == b
@[irreducible] def iLt (a b : Int) : Bool:=decide (a < b)
@[irreducible] def iLe (a b : Int) : Bool:=decide (a ≤ b)
@[irreducible] def sEq (a b : List UInt8) : Bool:=decide (a = b)
@[irreducible] def sLt (a b : List UInt8) : Bool:=Op.bytesLess a b
@[irreducible] def bNot (a : Bool) : Bool:=!a
@[irreducible] def bEq (a b : Bool) : Bool:=a == b
theorem iEq_t (a b : Int) : (iEq a b = true) = (a = b):=by unfold iEq;simp
theorem iEq_f (a b : Int) : (iEq a b = false) = (a ≠ b):=by unfold iEq;simp
theorem iLt_t (a b : Int) : (iLt a b = true) = (a < b):=by unfold iLt;simp
theorem iLt_f (a b : Int) : (iLt a b = false) = (b ≤ a):=by unfold iLt;simp
theorem iLe_t (a b : Int) : (iLe a b = true) = (a ≤ b):=by unfold iLe;simp
theorem iLe_f (a b : Int) : (iLe a b = false) = (b < a):=by unfold iLe;simp
theorem sEq_t (a b : List UInt8) : (sEq a b = true) = (a = b):=by unfold sEq;simp
theorem sEq_f (a b : List UInt8) : (sEq a b = false) = (a ≠ b):=by unfold sEq;simp
theorem bNot_t (a : Bool) : (bNot a = true) = (a = false):=by unfold bNot;simp
theorem bNot_f (a : Bool) : (bNot a = false) = (a = true):=by unfold bNot;simp
theorem bEq_t (a b : Bool) : (bEq a b = true) = (a = b):=by unfold bEq;simp
theorem bEq_f (a b : Bool) : (bEq a b = false) = (a ≠ b):=by unfold bEq;simp
def ibin : BinOp → IntKind → Int → Int → Option Value
  | .add,k,a,b=>some (.int k (k.wrap (a + b)))
  | .sub,k,a,b=>some (.int k (k.wrap (a - b)))
  | .mul,k,a,b=>some (.int k (k.wrap (a * b)))
  | .eql,_,a,b=>some (.bool (iEq a b))
  | .neq,_,a,b=>some (.bool (bNot (iEq a b)))
  | .lss,_,a,b=>some (.bool (iLt a b))
  | .leq,_,a,b=>some (.bool (iLe a b))
  | .gtr,_,a,b=>some (.bool (iLt b a))
  | .geq,_,a,b=>some (.bool (iLe b a))
  | .and,k,a,b=>some (.int k (k.wrap ((BitVec.ofInt k.bits a &&& BitVec.ofInt k.bits b).toNat : Int)))
  | .or,k,a,b=>some (.int k (k.wrap ((BitVec.ofInt k.bits a ||| BitVec.ofInt k.bits b).toNat : Int)))
  | .xor,k,a,b=>some (.int k (k.wrap ((BitVec.ofInt k.bits a ^^^ BitVec.ofInt k.bits b).toNat : Int)))
  | _,_,_,_=>none
theorem run_ibin {P0 : Program} {op : BinOp} {k : IntKind} {a b : Int} {t : TypeId} {x y : Operand} {w : World} {r : Value} (h : ibin op k a b = some r) :
    (do eqGuard op t x y (.int k a) (.int k b);binOp op t (.int k a) (.int k b) : Sem Value).run P0 w = .ok r w:=by
  cases op <;> simp only [ibin,Option.some.injEq,reduceCtorEq] at h <;> subst h <;> simp [eqGuard,binOp,Op.intArith,Op.intCmp,Op.intBits,iEq,iLt,iLe,bNot,bne]
theorem D_int {op : BinOp} {t t' : TypeId} {x y : Operand} {k : IntKind} {a b : Int} {r : Value} (hx : ρ x = some (.sc (.int k a))) (hy : ρ y = some (.sc (.int k b))) (hr : ibin op k a b = some r) : PPOp P { dst:=dst,op:=.binOp op t x y t',type:=ty,pos:=pos,after:=af,guard:=gd } ρ (.sc r) :=
  PPOp.val (by simp) (fun B G act w hR E=>⟨r,by
    have e1:=conc_sc (E _ (by first|exact List.Mem.head _|exact List.Mem.tail _ (List.Mem.head _)|exact List.Mem.tail _ (List.Mem.tail _ (List.Mem.head _))) _ hx);have e2:=conc_sc (E _ (by first|exact List.Mem.head _|exact List.Mem.tail _ (List.Mem.head _)|exact List.Mem.tail _ (List.Mem.tail _ (List.Mem.head _))) _ hy)
    have:=run_ibin (P0:=P) (t:=t) (x:=x) (y:=y) (w:=w) hr
    simp only [execOp,e1,e2,Sem.run_bind] at this ⊢
    rw [this];rfl,.sc _⟩)
abbrev str (l : List UInt8) : AV:=.sc (.string ⟨l.toArray⟩)
theorem beq_dec (a b : List UInt8) : (a == b) = decide (a = b):=by rw [Bool.eq_iff_iff];simp
def sbin : BinOp → List UInt8 → List UInt8 → Option Value
  | .eql,a,b=>some (.bool (sEq a b))
  | .neq,a,b=>some (.bool (bNot (sEq a b)))
  | .lss,a,b=>some (.bool (sLt a b))
  | .leq,a,b=>some (.bool (sLt a b || sEq a b))
  | .gtr,a,b=>some (.bool (bNot (sLt a b || sEq a b)))
  | .geq,a,b=>some (.bool (bNot (sLt a b)))
  | _,_,_=>none
theorem D_str {op : BinOp} {t t' : TypeId} {x y : Operand} {a b : List UInt8} {r : Value} (hx : ρ x = some (str a)) (hy : ρ y = some (str b)) (hr : sbin op a b = some r) : PPOp P { dst:=dst,op:=.binOp op t x y t',type:=ty,pos:=pos,after:=af,guard:=gd } ρ (.sc r) :=
  PPOp.val (by simp) (fun B G act w hR E=>⟨r,by
    have e1:=conc_sc (E _ (by first|exact List.Mem.head _|exact List.Mem.tail _ (List.Mem.head _)|exact List.Mem.tail _ (List.Mem.tail _ (List.Mem.head _))) _ hx);have e2:=conc_sc (E _ (by first|exact List.Mem.head _|exact List.Mem.tail _ (List.Mem.head _)|exact List.Mem.tail _ (List.Mem.tail _ (List.Mem.head _))) _ hy)
    cases op <;> simp only [sbin,Option.some.injEq,reduceCtorEq] at hr <;> subst hr <;> simp [execOp,e1,e2,eqGuard,binOp,Op.stringOp,ByteArray.toList_mk,beq_dec,sEq,sLt,bNot],.sc _⟩)
theorem D_cat {t t' : TypeId} {x y : Operand} {a b : List UInt8} (hx : ρ x = some (str a)) (hy : ρ y = some (str b)) (hl : a.length + b.length ≤ 9223372036854775807) : PPOp P { dst:=dst,op:=.binOp .add t x y t',type:=ty,pos:=pos,after:=af,guard:=gd } ρ (str (a ++ b)) :=
  PPOp.val (by simp) (fun B G act w hR E=>⟨.string ⟨(a ++ b).toArray⟩,by
    have e1:=conc_sc (E _ (by first|exact List.Mem.head _|exact List.Mem.tail _ (List.Mem.head _)|exact List.Mem.tail _ (List.Mem.tail _ (List.Mem.head _))) _ hx);have e2:=conc_sc (E _ (by first|exact List.Mem.head _|exact List.Mem.tail _ (List.Mem.head _)|exact List.Mem.tail _ (List.Mem.tail _ (List.Mem.head _))) _ hy)
    have e3 : ¬ ((((ByteArray.mk a.toArray).size + (ByteArray.mk b.toArray).size : Nat) : Int) > IntKind.i64.max):=by
      simp [ByteArray.size,IntKind.max,IntKind.signed,IntKind.bits];omega
    have e4 : ByteArray.mk a.toArray ++ ByteArray.mk b.toArray = ByteArray.mk (a ++ b).toArray:=by
      apply ByteArray.ext;simp
    simp only [execOp,e1,e2,eqGuard,binOp,Op.stringOp,e3,e4,if_false,Sem.run_bind];rfl,.sc _⟩)
class Und (P : Program) (t : TypeId) (d : outParam TypeDesc) : Prop where
  h : P.underlying t = some d
class Siz (P : Program) (t : TypeId) (n : outParam Nat) : Prop where
  h : ∀ w,(sizeOf t).run P w = .ok n w
class Agg (P : Program) (t : TypeId) (b : outParam Bool) : Prop where
  h : ∀ w,(isAgg t).run P w = .ok b w
class Zer (P : Program) (t : TypeId) (v : outParam Value) : Prop where
  h : ∀ w,(zeroValue t).run P w = .ok v w
class Byt (P : Program) (t : TypeId) (n : outParam Nat) : Prop where
  h : ∀ w,∃ i,(typeInfo t).run P w = .ok i w ∧ i.bytes = n
class Fld (P : Program) (t : TypeId) (f : Nat) (off : outParam Nat) : Prop where
  h : ∀ w a,(Instr.fieldAt t (.pointer (some a)) f).run P w = .ok (.pointer (some (a.add off))) w
theorem add_none (b o n : Nat) : (⟨b,o,none⟩ : Addr).add n = ⟨b,o + n,none⟩:=by
  unfold Addr.add;split
  · rename_i h;subst h;rfl
  · rfl
theorem exec_bin {P0 : Program} (ρ : Operand → Value) {op : BinOp} {t t' : TypeId} {x y : Operand} {dst : Option Nat} {g : Option (Nat × Bool)} {w : World} {v : Value}
    (h : (do eqGuard op t x y (ρ x) (ρ y);binOp op t (ρ x) (ρ y) : Sem Value).run P0 w = .ok v w) :
    (execOp ρ { dst:=dst,op:=.binOp op t x y t',type:=ty,pos:=pos,after:=af,guard:=g }).run P0 w = .ok (.value v) w:=by
  simp only [execOp,Sem.run_bind] at h ⊢
  rw [h];rfl
theorem D_not {t : TypeId} {x : Operand} {a : Bool} (hx : ρ x = some (.sc (.bool a))) : PPOp P { dst:=dst,op:=.unOp .not t x,type:=ty,pos:=pos,after:=af,guard:=gd } ρ (.sc (.bool (bNot a))) :=
  PPOp.val (by simp) (fun B G act w hR E=>⟨.bool (bNot a),by simp [bNot,execOp,conc_sc (E _ (by first|exact List.Mem.head _|exact List.Mem.tail _ (List.Mem.head _)|exact List.Mem.tail _ (List.Mem.tail _ (List.Mem.head _))) _ hx),Op.unary],.sc _⟩)
theorem D_conv_int {t t' : TypeId} {x : Operand} {k k' : IntKind} {a : Int} {du : TypeDesc} [hs : Und P t du] [hu : Und P t' (.int k')] (hx : ρ x = some (.sc (.int k a))) : PPOp P { dst:=dst,op:=.convert t t' x,type:=ty,pos:=pos,after:=af,guard:=gd } ρ (.sc (.int k' (k'.wrap a))) :=
  PPOp.val (by simp) (fun B G act w hR E=>⟨.int k' (k'.wrap a),by simp [execOp,conc_sc (E _ (by first|exact List.Mem.head _|exact List.Mem.tail _ (List.Mem.head _)|exact List.Mem.tail _ (List.Mem.tail _ (List.Mem.head _))) _ hx),convert,run_underlying hs.h,run_underlying hu.h,Conv.intToInt],.sc _⟩)
theorem D_shl {t t' : TypeId} {x y : Operand} {k k' : IntKind} {a b : Int} (hx : ρ x = some (.sc (.int k a))) (hy : ρ y = some (.sc (.int k' b))) (hb : 0 ≤ b) : PPOp P { dst:=dst,op:=.binOp .shl t x y t',type:=ty,pos:=pos,after:=af,guard:=gd } ρ (.sc (.int k (k.wrap (a * 2 ^ (min b.toNat k.bits))))) :=
  PPOp.val (by simp) (fun B G act w hR E=>⟨.int k (k.wrap (a * 2 ^ (min b.toNat k.bits))),by
    have : ¬ b < 0:=by omega
    simp [execOp,conc_sc (E _ (by first|exact List.Mem.head _|exact List.Mem.tail _ (List.Mem.head _)|exact List.Mem.tail _ (List.Mem.tail _ (List.Mem.head _))) _ hx),conc_sc (E _ (by first|exact List.Mem.head _|exact List.Mem.tail _ (List.Mem.head _)|exact List.Mem.tail _ (List.Mem.tail _ (List.Mem.head _))) _ hy),eqGuard,binOp,Op.shift,this],.sc _⟩)
theorem D_shr {t t' : TypeId} {x y : Operand} {k k' : IntKind} {a b : Int} (hx : ρ x = some (.sc (.int k a))) (hy : ρ y = some (.sc (.int k' b))) (hb : 0 ≤ b) : PPOp P { dst:=dst,op:=.binOp .shr t x y t',type:=ty,pos:=pos,after:=af,guard:=gd } ρ (.sc (.int k (a.fdiv (2 ^ (min b.toNat k.bits))))) :=
  PPOp.val (by simp) (fun B G act w hR E=>⟨.int k (a.fdiv (2 ^ (min b.toNat k.bits))),by
    have : ¬ b < 0:=by omega
    simp [execOp,conc_sc (E _ (by first|exact List.Mem.head _|exact List.Mem.tail _ (List.Mem.head _)|exact List.Mem.tail _ (List.Mem.tail _ (List.Mem.head _))) _ hx),conc_sc (E _ (by first|exact List.Mem.head _|exact List.Mem.tail _ (List.Mem.head _)|exact List.Mem.tail _ (List.Mem.tail _ (List.Mem.head _))) _ hy),eqGuard,binOp,Op.shift,this],.sc _⟩)
theorem exec_builtin (ρ : Operand → Value) {b : Builtin} {xs : Array Operand} {ts : Array TypeId} {dst : Option Nat} {g : Option (Nat × Bool)} :
    execOp ρ { dst:=dst,op:=.call { callee:=.builtin b,args:=xs,argTypes:=ts },type:=ty,pos:=pos,after:=af,guard:=g } =
      builtin b ts ty (xs.map fun | .const _=>true|_=>false) (xs.map ρ):=rfl
theorem exec_len {P0 : Program} (ρ : Operand → Value) {x : Operand} {t : TypeId} {dst : Option Nat} {g : Option (Nat × Bool)} {w : World} {v : Value} (h : (Builtin.len_ #[t] ty #[ρ x]).run P0 w = .ok v w) :
    (execOp ρ { dst:=dst,op:=.call { callee:=.builtin .len,args:=#[x],argTypes:=#[t] },type:=ty,pos:=pos,after:=af,guard:=g }).run P0 w = .ok (.value v) w:=by
  rw [exec_builtin]
  simp only [builtin,List.map_toArray,List.map_cons,List.map_nil,Sem.run_bind,h];rfl
theorem run_len_sl {P0 : Program} {t ty e : TypeId} {base : Option Addr} {n c : Nat} {w : World} (h : P0.underlying t = some (.slice e)) : (Builtin.len_ #[t] ty #[.slice base n c]).run P0 w = .ok (.int .i64 n) w:=by
  simp [Builtin.len_,run_underlying h,goInt]
theorem D_len_str {t : TypeId} {x : Operand} {l : List UInt8} [hu : Und P t .string] (hx : ρ x = some (str l)) : PPOp P { dst:=dst,op:=.call { callee:=.builtin .len,args:=#[x],argTypes:=#[t] },type:=ty,pos:=pos,after:=af,guard:=gd } ρ (.sc (.int .i64 l.length)) :=
  PPOp.val (by simp) (fun B G act w hR E=>⟨.int .i64 l.length,exec_len _ (by rw [conc_sc (E _ (by first|exact List.Mem.head _|exact List.Mem.tail _ (List.Mem.head _)|exact List.Mem.tail _ (List.Mem.tail _ (List.Mem.head _))) _ hx)];exact run_len_string w t ty ⟨l.toArray⟩ hu.h),.sc _⟩)
theorem D_len_sl {t e : TypeId} {x : Operand} {tok : Option Nat} {k : Nat} {els : List (List AV)} [hu : Und P t (.slice e)] (hx : ρ x = some (.sl tok k els)) : PPOp P { dst:=dst,op:=.call { callee:=.builtin .len,args:=#[x],argTypes:=#[t] },type:=ty,pos:=pos,after:=af,guard:=gd } ρ (.sc (.int .i64 els.length)) :=
  PPOp.val (by simp) (fun B G act w hR E=>⟨.int .i64 els.length,exec_len _ (by
    have e:=E _ (by first|exact List.Mem.head _|exact List.Mem.tail _ (List.Mem.head _)|exact List.Mem.tail _ (List.Mem.tail _ (List.Mem.head _))) _ hx
    generalize act.eval x = v at e
    cases e <;> exact run_len_sl hu.h),.sc _⟩)
theorem D_lenM {α : Type} {t e : TypeId} {x : Operand} {tok : Option Nat} {k : Nat} {l : List α} {f : α → List AV} [hu : Und P t (.slice e)] (hx : ρ x = some (.sl tok k (l.map f))) :
    PPOp P { dst:=dst,op:=.call { callee:=.builtin .len,args:=#[x],argTypes:=#[t] },type:=ty,pos:=pos,after:=af,guard:=gd } ρ (.sc (.int .i64 l.length)):=by
  have:=D_len_sl (P:=P) (ty:=ty) (pos:=pos) (af:=af) (dst:=dst) (gd:=gd) (t:=t) hx
  simpa using this
theorem D_len_nil {t e : TypeId} {x : Operand} {a : Option Addr} {n c : Nat} [hu : Und P t (.slice e)] (hx : ρ x = some (.sc (.slice a n c))) : PPOp P { dst:=dst,op:=.call { callee:=.builtin .len,args:=#[x],argTypes:=#[t] },type:=ty,pos:=pos,after:=af,guard:=gd } ρ (.sc (.int .i64 n)) :=
  PPOp.val (by simp) (fun B G act w hR E=>⟨.int .i64 n,exec_len _ (by rw [conc_sc (E _ (by first|exact List.Mem.head _|exact List.Mem.tail _ (List.Mem.head _)|exact List.Mem.tail _ (List.Mem.tail _ (List.Mem.head _))) _ hx)];exact run_len_sl hu.h),.sc _⟩)
theorem loadCells_of {B : Base P} {h : List AObj} {G : Gh} {w : World} (hr : RH B G h w) {b o : Nat} (vs : List Value) (him : ∀ j v,vs[j]? = some v → G.imm b (o + j) = some v) :
    (loadCells ⟨b,o,none⟩ vs.length).run P w = .ok vs.toArray w :=
  run_loadCells_list w ⟨b,o,none⟩ vs fun j v hj=>by rw [add_none];exact hr.imm _ _ _ (him j v hj)
theorem ep_inv {G : Gh} {v : Value} {cells : List AV} (h : Conc G v (.ep cells)) : ∃ b o vs,v = .pointer (some ⟨b,o,none⟩) ∧ ConcL G vs cells ∧ ∀ (j : Nat) (u : Value),vs[j]? = some u → G.imm b (o + j) = some u:=by
  cases h with
  | @ep b o cells us him hc =>
    refine ⟨b,o,(List.range cells.length).map us,rfl,⟨by simp,fun i v x hv hx=>?_⟩,fun j u hu=>?_⟩
    · have hi : i < cells.length:=by have:=(List.getElem?_eq_some_iff.1 hx).1;exact this
      simp [hi] at hv;subst hv;exact hc i x hx
    · rcases Nat.lt_or_ge j cells.length with hj|hj
      · simp [hj] at hu;subst hu;exact him j hj
      · rw [List.getElem?_eq_none (by simpa using hj)] at hu;cases hu
theorem ep_mk {G : Gh} {b o : Nat} {vs : List Value} {cells : List AV} (h : ConcL G vs cells) (hi : ∀ (j : Nat) (u : Value),vs[j]? = some u → G.imm b (o + j) = some u) : Conc G (.pointer (some ⟨b,o,none⟩)) (.ep cells) :=
  .ep (fun j=>(vs[j]?).getD undef) (fun j hj=>by
      have hj' : j < vs.length:=h.1 ▸ hj
      have:=hi j vs[j] (List.getElem?_eq_getElem hj')
      simpa [hj'] using this)
    (fun j x hx=>by
      have hj : j < cells.length:=(List.getElem?_eq_some_iff.1 hx).1
      have hj' : j < vs.length:=h.1 ▸ hj
      simpa [hj'] using h.2 j vs[j] x (List.getElem?_eq_getElem hj') hx)
theorem ConcL.take {G : Gh} {vs : List Value} {xs : List AV} (h : ConcL G vs xs) (n : Nat) : ConcL G (vs.take n) (xs.take n) :=
  ⟨by simp [h.1],fun i v x hv hx=>by
    rw [List.getElem?_take] at hv hx
    split at hv
    · rename_i hlt;simp only [hlt,if_true] at hx;exact h.2 i v x hv hx
    · cases hv⟩
theorem ConcL.drop {G : Gh} {vs : List Value} {xs : List AV} (h : ConcL G vs xs) (n : Nat) : ConcL G (vs.drop n) (xs.drop n) :=
  ⟨by simp [h.1],fun i v x hv hx=>by rw [List.getElem?_drop] at hv hx;exact h.2 _ v x hv hx⟩
theorem D_load1 {t : TypeId} {x : Operand} {c : AV} {cs : List AV} [ha : Agg P t false] (hx : ρ x = some (.ep (c :: cs))) : PPOp P { dst:=dst,op:=.load t x,type:=ty,pos:=pos,after:=af,guard:=gd } ρ c :=
  PPOp.val (by simp) (fun B G act w hR E=>by
    obtain ⟨b,o,vs,hv,hc,hi⟩:=ep_inv (E _ (by first|exact List.Mem.head _|exact List.Mem.tail _ (List.Mem.head _)|exact List.Mem.tail _ (List.Mem.tail _ (List.Mem.head _))) _ hx)
    obtain ⟨v,vs',rfl,h1,_⟩:=hc.inv_cons
    have hcell:=hR.imm _ _ _ (hi 0 v rfl)
    exact ⟨v,by simp [execOp,hv,Instr.loadAt,Instr.sureAddr,loadVar,ha.h,load,Sem.run,hcell] at hcell ⊢,h1⟩)
theorem D_loadA {t : TypeId} {x : Operand} {n : Nat} {cells : List AV} [ha : Agg P t true] [hs : Siz P t n] (hx : ρ x = some (.ep cells)) (hn : Nat.ble n cells.length = true) : PPOp P { dst:=dst,op:=.load t x,type:=ty,pos:=pos,after:=af,guard:=gd } ρ (.ag (cells.take n)) :=
  PPOp.val (by simp) (fun B G act w hR E=>by
    obtain ⟨b,o,vs,hv,hc,hi⟩:=ep_inv (E _ (by first|exact List.Mem.head _|exact List.Mem.tail _ (List.Mem.head _)|exact List.Mem.tail _ (List.Mem.tail _ (List.Mem.head _))) _ hx)
    have hn' : n ≤ vs.length:=by rw [hc.1];simpa using hn
    have hl:=loadCells_of (P:=P) hR (vs.take n) (b:=b) (o:=o) (fun j v hj=>hi j v (by
      rw [List.getElem?_take] at hj;split at hj
      · exact hj
      · cases hj))
    rw [List.length_take,Nat.min_eq_left hn'] at hl
    exact ⟨.agg (vs.take n).toArray,by simp [execOp,hv,Instr.loadAt,Instr.sureAddr,loadVar,ha.h,hs.h,hl],.ag (hc.take n).1 (hc.take n).2⟩)
theorem D_loadW {t : TypeId} {x : Operand} {n : Nat} {cells : List AV} [ha : Agg P t true] [hs : Siz P t n] (hx : ρ x = some (.ep cells)) (hn : Nat.beq n cells.length = true) :
    PPOp P { dst:=dst,op:=.load t x,type:=ty,pos:=pos,after:=af,guard:=gd } ρ (.ag cells):=by
  have e : n = cells.length:=Nat.eq_of_beq_eq_true hn
  have:=D_loadA (P:=P) (ty:=ty) (pos:=pos) (af:=af) (dst:=dst) (gd:=gd) (t:=t) (n:=n) hx (by rw [e];simp)
  rwa [e,List.take_length] at this
theorem D_fld {t : TypeId} {x : Operand} {f off : Nat} {cells : List AV} [hf : Fld P t f off] (hx : ρ x = some (.ep cells)) : PPOp P { dst:=dst,op:=.fieldAddr t x f,type:=ty,pos:=pos,after:=af,guard:=gd } ρ (.ep (cells.drop off)) :=
  PPOp.val (by simp) (fun B G act w hR E=>by
    obtain ⟨b,o,vs,hv,hc,hi⟩:=ep_inv (E _ (by first|exact List.Mem.head _|exact List.Mem.tail _ (List.Mem.head _)|exact List.Mem.tail _ (List.Mem.tail _ (List.Mem.head _))) _ hx)
    refine ⟨.pointer (some ⟨b,o + off,none⟩),by simp [execOp,hv,hf.h,add_none],ep_mk (hc.drop off) fun j u hu=>?_⟩
    rw [List.getElem?_drop] at hu
    rw [Nat.add_assoc];exact hi _ _ hu)
end ops
end
end Go.AL

namespace Go.AL
open Go.Proofs (Enters enters_of)
structure Grown (w w' : World) : Prop where
  tape : w'.tape = w.tape
  os : w'.os = w.os
  output : w'.output = w.output
  drawn : w.drawn ≤ w'.drawn
  size : w.heap.size ≤ w'.heap.size
  out : ∀ b,b < w.heap.size → w'.heap[b]? = w.heap[b]?
def Gh.of (imm : Nat → Nat → Option Value) : Gh:=⟨imm,fun _=>none,fun _ _=>none⟩
def PC (P : Program) [GlobF P] (f : FuncId) (xs : List AV) (v : AV) : Prop :=
  Enters P f ∧ ∀ (w : World) (imm : Nat → Nat → Option Value) (vs : List Value),GlobW P w imm → (∀ b o u,imm b o = some u → w.cell? ⟨b,o,none⟩ = some u) → ConcL (Gh.of imm) vs xs →
    Calls P f vs.toArray w fun e w'=>∃ r imm',e = .returned r ∧ Grown w w' ∧ (∀ b o,b < w.heap.size → imm' b o = imm b o) ∧ (∀ b o u,imm' b o = some u → w'.cell? ⟨b,o,none⟩ = some u) ∧ Conc (Gh.of imm') r v
def AC (P : Program) [GlobF P] (f : FuncId) (xs : List AV) (h : List AObj) (Q : AV → List AObj → Prop) : Prop :=
  Enters P f ∧ ∀ (B : Base P) (G : Gh) (w : World) (vs : List Value),RH B G h w → ConcL G vs xs →
    Calls P f vs.toArray w fun e w'=>∃ r G' h' v,e = .returned r ∧ G.le G' ∧ RH B G' h' w' ∧ Conc G' r v ∧ Q v h'
def Le (x y : AV) : Prop:=∀ (G : Gh) (v : Value),Conc G v x → Conc (Gh.of G.imm) v y
class Pur (x : AV) : Prop where
  h : ∀ (G : Gh) (v : Value),Conc G v x → Conc (Gh.of G.imm) v x
class PurL (xs : List AV) : Prop where
  h : ∀ x,x ∈ xs → ∀ (G : Gh) (v : Value),Conc G v x → Conc (Gh.of G.imm) v x
instance : Pur .any:=⟨fun _ v _=>.any v⟩
instance (u : Value) : Pur (.sc u):=⟨fun _ v h=>by cases h;exact .sc _⟩
instance : PurL []:=⟨fun _ h=>by cases h⟩
instance (x : AV) (xs : List AV) [hx : Pur x] [hs : PurL xs] : PurL (x :: xs):=⟨fun y h=>by
  cases h with
  | head=>exact hx.h
  | tail _ h=>exact hs.h y h⟩
instance (xs : List AV) [hs : PurL xs] : Pur (.ag xs):=⟨fun G v h=>by
  cases h with
  | ag l h=>exact .ag l (fun i v x a b=>hs.h x (List.mem_of_getElem? b) G v (h i v x a b))⟩
instance (xs : List AV) [hs : PurL xs] : Pur (.tu xs):=⟨fun G v h=>by
  cases h with
  | tu l h=>exact .tu l (fun i v x a b=>hs.h x (List.mem_of_getElem? b) G v (h i v x a b))⟩
instance (xs : List AV) [hs : PurL xs] : Pur (.ep xs):=⟨fun G v h=>by
  cases h with
  | ep us him hc=>exact .ep us him (fun j x hx=>hs.h x (List.mem_of_getElem? hx) G _ (hc j x hx))⟩
instance (f : Fn) (xs ys : List AV) [hx : PurL xs] [hy : PurL ys] : Pur (.fn f xs ys):=⟨fun G v h=>by
  cases h with
  | fn l1 l2 h1 h2=>exact .fn l1 l2 (fun i v x a b=>hx.h x (List.mem_of_getElem? b) G v (h1 i v x a b)) (fun i v x a b=>hy.h x (List.mem_of_getElem? b) G v (h2 i v x a b))⟩
theorem Le.sl {tok : Option Nat} {k : Nat} {els : List (List AV)} (hs : ∀ e,e ∈ els → PurL e) : Le (.sl tok k els) (.sl none k els):=fun G v h=>by
  cases h with
  | sl us hk hcap him hc ht=>exact .sl us hk hcap him (fun i e j x he hx=>(hs e (List.mem_of_getElem? he)).h x (List.mem_of_getElem? hx) G _ (hc i e j x he hx)) (fun t e=>by cases e)
  | slnil ht=>exact .slnil (fun t e=>by cases e)
  | slz=>exact .slz
instance {α : Type} (k : Nat) (l : List α) (f : α → List AV) [hs : ∀ a,PurL (f a)] : Pur (.sl none k (l.map f)):=⟨Le.sl fun e he=>by
  obtain ⟨a,_,rfl⟩:=List.mem_map.1 he;exact hs a⟩
instance (k : Nat) : Pur (.sl none k []):=⟨Le.sl fun e he=>by cases he⟩
class PurLL (xs : List (List AV)) : Prop where
  h : ∀ e,e ∈ xs → PurL e
instance : PurLL []:=⟨fun _ h=>by cases h⟩
instance (x : List AV) (xs : List (List AV)) [hx : PurL x] [hs : PurLL xs] : PurLL (x :: xs):=⟨fun y h=>by
  cases h with
  | head=>exact hx
  | tail _ h=>exact hs.h y h⟩
instance {α : Type} (l : List α) (f : α → List AV) [hs : ∀ a,PurL (f a)] : PurLL (l.map f):=⟨fun e he=>by
  obtain ⟨a,_,rfl⟩:=List.mem_map.1 he;exact hs a⟩
instance (xs ys : List (List AV)) [hx : PurLL xs] [hy : PurLL ys] : PurLL (xs ++ ys):=⟨fun e he=>by
  rcases List.mem_append.1 he with h|h
  · exact hx.h e h
  · exact hy.h e h⟩
instance (k : Nat) (els : List (List AV)) [hs : PurLL els] : Pur (.sl none k els):=⟨Le.sl hs.h⟩
theorem Le.of_eq {x y : AV} (h : x = y) [hy : Pur y] : Le x y:=h ▸ hy.h
theorem Le.any (x : AV) : Le x .any:=fun _ v _=>.any v
theorem Le.nil {x : AV} {k : Nat} (h : x = .sc (.slice none 0 0)) : Le x (.sl none k []):=h ▸ fun _ v hv=>by cases hv;exact .slnil (fun t e=>by cases e)
def LeL : List AV → List AV → Prop
  | [],[]=>True
  | x :: xs,y :: ys=>Le x y ∧ LeL xs ys
  | _,_=>False
theorem LeL.conc {G : Gh} : ∀ {xs ys : List AV} {vs : List Value},LeL xs ys → ConcL G vs xs → ConcL (Gh.of G.imm) vs ys
  | [],[],vs,_,h=>by rw [h.inv_nil];exact .nil _
  | x :: xs,y :: ys,vs,hl,h=>by
    obtain ⟨v,vs',rfl,h1,h2⟩:=h.inv_cons
    exact .cons (hl.1 _ _ h1) (hl.2.conc h2)
  | [],_ :: _,_,hl,_=>hl.elim
  | _ :: _,[],_,hl,_=>hl.elim
theorem Gh.of_le (G : Gh) : (Gh.of G.imm).le G:=⟨fun _ _ _ h=>h,fun _ _ h=>(by cases h),fun _ _ _ h=>(by cases h)⟩
theorem RH.grown {P : Program} [GlobF P] {B : Base P} {G : Gh} {h : List AObj} {w w' : World} {imm' : Nat → Nat → Option Value} (hr : RH B G h w) (hg : Grown w w') (hlow : ∀ b o,b < w.heap.size → imm' b o = G.imm b o)
    (him : ∀ b o u,imm' b o = some u → w'.cell? ⟨b,o,none⟩ = some u) : G.le ⟨imm',G.blk,G.tl⟩ ∧ RH B ⟨imm',G.blk,G.tl⟩ h w':=by
  have hle : G.le ⟨imm',G.blk,G.tl⟩:=⟨fun b o v e=>by show imm' b o = some v;rw [hlow b o (hr.lt e)];exact e,fun _ _ e=>e,fun _ _ _ e=>e⟩
  refine ⟨hle,hr.turn (hr.base.trans hle) hg.tape hg.os hg.output hg.drawn hg.size (fun b hb=>hg.out b (Nat.lt_of_lt_of_le hb hr.size)) (fun b o hb=>hlow b o (Nat.lt_of_lt_of_le hb hr.size)) him ?_ ?_ ?_ hr.fresh⟩
  · intro r o ho
    exact (hr.obj r o ho).keep hle rfl (fun _=>rfl) fun b _ hb=>⟨hg.out b hb,fun i hi=>by show imm' b i = none;rw [hlow b i hb];exact hi⟩
  · intro r o b ho hb
    exact .inr ⟨o,ho,by rw [← hb];exact (ownBlk.congr rfl (fun _=>rfl) o).symm⟩
  · intro r r' o o' b h1 h2 h3 _ hb
    rw [ownBlk.congr (G:=G) (G':=⟨imm',G.blk,G.tl⟩) rfl (fun _=>rfl) o] at h3
    exact absurd ((hr.obj r o h1).own h3).1 (by omega)
section
variable {P : Program} [GlobF P] {fr : Option Nat} {N : Nat} {Q : Exit → AS → Prop} {s : AS} {ops : Array Oper} {rest : List Oper} {ty : TypeId} {pos : String} {af : Array Edge} {d : Nat}
theorem WL_enter {op : Op} {f : FuncId} {xs : List AV} {K : AV → List AObj → Prop} (hd : Nat.blt d N = true) (hdef : ∀ c,op ≠ .defer c) (hac : AC P f xs s.heap K)
    (hop : ∀ (B : Base P) (G : Gh) (a : Act) (w : World),R B N G s a w → ∃ vs,(execOp a.eval { dst:=some d,op:=op,type:=ty,pos:=pos,after:=af,guard:=none }).run P w = (callFunc f vs.toArray).run P w ∧ ConcL G vs xs)
    (h : ∀ v h',K v h' → WL P fr N ops rest Q (({ s with heap:=h' } : AS).put d v)) : WL P fr N ops ({ dst:=some d,op:=op,type:=ty,pos:=pos,after:=af,guard:=none } :: rest) Q s:=by
  intro B G a w hr
  refine wpListIn_plain rfl fun K' hK'=>?_
  obtain ⟨vs,hrun,hc⟩:=hop B G a w hr
  refine ⟨fun f _=>fence_fn fr f,?_⟩
  rw [Oper.semAt_eq _ _ _ hdef,hrun,hac.1 vs.toArray w]
  refine ⟨fun hs=>(by rw [fence_depth] at hs;cases hs),?_⟩
  have hcall:=callsIn_wide (n:=0 - 1).2 (hac.2 B G w vs hr.heap hc)
  have hcall' : CallsIn (fence fr) (0 - 1) P f vs.toArray w (fun e w'=>∃ r G' h' v,e = .returned r ∧ G.le G' ∧ RH B G' h' w' ∧ Conc G' r v ∧ K v h'):=by cases fr <;> exact hcall
  refine hcall'.mono ?_
  rintro e w' ⟨r,G',h',v,rfl,hg',hh,hv,hk⟩
  exact hK' _ _ (h v h' hk B G' _ w' ((hr.step hg' hh).put (by simpa [Nat.blt_eq] using hd) hv))
theorem AC.mono {f : FuncId} {xs : List AV} {h : List AObj} {K K' : AV → List AObj → Prop} (ha : AC P f xs h K) (hk : ∀ v h',K v h' → K' v h') : AC P f xs h K' :=
  ⟨ha.1,fun B G w vs hr hc=>(ha.2 B G w vs hr hc).mono fun _ _ ⟨r,G',h',v,a,b,c,d,e⟩=>⟨r,G',h',v,a,b,c,d,hk _ _ e⟩⟩
theorem exec_call {P0 : Program} (ρ : Operand → Value) {x : Operand} {args : List Operand} {ts : Array TypeId} {dst : Option Nat} {g : Option (Nat × Bool)} {f : FuncId} {fs cs : List Value} {w : World} (hx : ρ x = .func (.func f) fs.toArray cs.toArray) :
    (execOp ρ { dst:=dst,op:=.call { callee:=.value x,args:=args.toArray,argTypes:=ts },type:=ty,pos:=pos,after:=af,guard:=g }).run P0 w = (callFunc f (fs ++ args.map ρ ++ cs).toArray).run P0 w:=by
  simp [execOp,resolve,hx,Deferred.ofValue,invoke]
theorem POp.enter {op : Op} {f : FuncId} {ys : List AV} {v : AV} {dst : Option Nat} {gd : Option (Nat × Bool)} {ρ : Operand → Option AV} {hp : List AObj} (hdef : ∀ c,op ≠ .defer c) (hpc : PC P f ys v)
    (hop : ∀ (B : Base P) (G : Gh) (a : Act) (w : World),RH B G hp w → (∀ x,x ∈ op.operands.toList → ∀ u,ρ x = some u → Conc G (a.eval x) u) →
      ∃ vs,(execOp a.eval { dst:=dst,op:=op,type:=ty,pos:=pos,after:=af,guard:=gd }).run P w = (callFunc f vs.toArray).run P w ∧ ConcL (Gh.of G.imm) vs ys) :
    POp P { dst:=dst,op:=op,type:=ty,pos:=pos,after:=af,guard:=gd } ρ hp v:=by
  intro fr B G a w hr hE
  obtain ⟨vs,hrun,hc⟩:=hop B G a w hr hE
  refine ⟨fun f _=>fence_fn fr f,?_⟩
  rw [Oper.semAt_eq _ _ _ hdef,hrun,hpc.1 vs.toArray w]
  refine ⟨fun hs=>(by rw [fence_depth] at hs;cases hs),?_⟩
  have hcall:=callsIn_wide (n:=0 - 1).2 (hpc.2 w G.imm vs hr.globW hr.imm hc)
  have hcall' : CallsIn (fence fr) (0 - 1) P f vs.toArray w (fun e w'=>∃ r imm',e = .returned r ∧ Grown w w' ∧ (∀ b o,b < w.heap.size → imm' b o = G.imm b o) ∧ (∀ b o u,imm' b o = some u → w'.cell? ⟨b,o,none⟩ = some u) ∧ Conc (Gh.of imm') r v):=by cases fr <;> exact hcall
  refine hcall'.mono ?_
  rintro e w' ⟨r,imm',rfl,hg,hlow,him,hv⟩
  obtain ⟨hle,hr'⟩:=hr.grown hg hlow him
  exact ⟨r,⟨imm',G.blk,G.tl⟩,rfl,hle,hr',hv.mono (Gh.of_le ⟨imm',G.blk,G.tl⟩)⟩
theorem PPOp.enter {op : Op} {f : FuncId} {ys : List AV} {v : AV} {dst : Option Nat} {gd : Option (Nat × Bool)} {ρ : Operand → Option AV} (hdef : ∀ c,op ≠ .defer c) (hpc : PC P f ys v)
    (hop : ∀ {hp : List AObj} (B : Base P) (G : Gh) (a : Act) (w : World),RH B G hp w → (∀ x,x ∈ op.operands.toList → ∀ u,ρ x = some u → Conc G (a.eval x) u) →
      ∃ vs,(execOp a.eval { dst:=dst,op:=op,type:=ty,pos:=pos,after:=af,guard:=gd }).run P w = (callFunc f vs.toArray).run P w ∧ ConcL (Gh.of G.imm) vs ys) :
    PPOp P { dst:=dst,op:=op,type:=ty,pos:=pos,after:=af,guard:=gd } ρ v:=fun _=>POp.enter hdef hpc fun B G a w hr hE=>hop B G a w hr hE
def LeO (ρ : Operand → Option AV) : List Operand → List AV → Prop
  | [],[]=>True
  | x :: xs,y :: ys=>(∃ u,ρ x = some u ∧ Le u y) ∧ LeO ρ xs ys
  | _,_=>False
theorem LeO.conc {G : Gh} {a : Act} {ρ : Operand → Option AV} : ∀ {xs : List Operand} {ys : List AV},LeO ρ xs ys → (∀ x,x ∈ xs → ∀ u,ρ x = some u → Conc G (a.eval x) u) → ConcL (Gh.of G.imm) (xs.map a.eval) ys
  | [],[],_,_=>.nil _
  | x :: _,_ :: _,⟨⟨u,hu,hl⟩,h⟩,hE=>.cons (hl _ _ (hE x (.head _) u hu)) (h.conc fun z hz=>hE z (.tail _ hz))
  | [],_ :: _,h,_=>h.elim
  | _ :: _,[],h,_=>h.elim
theorem LeO.nil {ρ : Operand → Option AV} : LeO ρ [] []:=trivial
theorem LeO.cons {ρ : Operand → Option AV} {x : Operand} {xs : List Operand} {u y : AV} {ys : List AV} (hu : ρ x = some u) (hl : Le u y) (h : LeO ρ xs ys) : LeO ρ (x :: xs) (y :: ys):=⟨⟨u,hu,hl⟩,h⟩
theorem LeO.same {ρ : Operand → Option AV} {x : Operand} {xs : List Operand} {y : AV} {ys : List AV} (hu : ρ x = some y) [hy : Pur y] (h : LeO ρ xs ys) : LeO ρ (x :: xs) (y :: ys):=⟨⟨y,hu,hy.h⟩,h⟩
theorem LeO.tok {ρ : Operand → Option AV} {x : Operand} {xs : List Operand} {tok : Option Nat} {k : Nat} {els : List (List AV)} {ys : List AV} (hu : ρ x = some (.sl tok k els)) [hs : PurLL els] (h : LeO ρ xs ys) : LeO ρ (x :: xs) (.sl none k els :: ys):=⟨⟨_,hu,Le.sl hs.h⟩,h⟩
theorem LeO.niln {ρ : Operand → Option AV} {x : Operand} {xs : List Operand} {k : Nat} {ys : List AV} (hu : ρ x = some (.sc (.slice none 0 0))) (h : LeO ρ xs ys) : LeO ρ (x :: xs) (.sl none k [] :: ys):=⟨⟨_,hu,Le.nil rfl⟩,h⟩
theorem D_pc {x : Operand} {args : List Operand} {ts : Array TypeId} {f : FuncId} {ys : List AV} {v : AV} {dst : Option Nat} {gd : Option (Nat × Bool)} {ρ : Operand → Option AV}
    (hpc : PC P f ys v) (hx : ρ x = some (.sc (.func (.func f) #[] #[]))) (hl : LeO ρ args ys) :
    PPOp P { dst:=dst,op:=.call { callee:=.value x,args:=args.toArray,argTypes:=ts },type:=ty,pos:=pos,after:=af,guard:=gd } ρ v :=
  PPOp.enter (by simp) hpc (fun B G a w hR E=>⟨args.map a.eval,by
    have hx':=conc_sc (E x (by simp [Op.operands,Call.operands]) _ hx)
    rw [exec_call (fs:=[]) (cs:=[]) a.eval hx'];simp,hl.conc fun z hz=>E z (by simp [Op.operands,Call.operands];exact .inr hz)⟩)
theorem D_pcC {x : Operand} {args : List Operand} {ts : Array TypeId} {f : FuncId} {zs ys ys' : List AV} {v : AV} {dst : Option Nat} {gd : Option (Nat × Bool)} {ρ : Operand → Option AV}
    (hpc : PC P f (ys ++ ys') v) (hx : ρ x = some (.fn (.func f) [] zs)) (hl : LeO ρ args ys) (hz : LeL zs ys') :
    PPOp P { dst:=dst,op:=.call { callee:=.value x,args:=args.toArray,argTypes:=ts },type:=ty,pos:=pos,after:=af,guard:=gd } ρ v :=
  PPOp.enter (by simp) hpc (fun B G a w hR E=>by
    have e:=E x (by simp [Op.operands,Call.operands]) _ hx
    generalize hv : a.eval x = u at e
    cases e with
    | @fn _ fs cs _ _ l1 l2 h1 h2 =>
      have : fs = []:=by simpa using l1
      subst this
      exact ⟨args.map a.eval ++ cs,by rw [exec_call (fs:=[]) a.eval hv];simp,ConcL.append (hl.conc fun z hz=>E z (by simp [Op.operands,Call.operands];exact .inr hz)) (hz.conc ⟨l2,h2⟩)⟩)
end
def ResOf (P : Program) [GlobF P] (fn : Func) (s : AS) (v : AV) : Prop :=
  ∀ (B : Base P) (N : Nat) (G : Gh) (a : Act) (w : World),R B N G s a w → ∃ r,(results fn a.tmps).run P w = .ok r w ∧ Conc G r v
section
variable {P : Program} [GlobF P] {fn : Func} {s : AS}
theorem ResOf.one {t : Nat} {v : AV} (hf : fn.results = #[.tmp t]) (hv : look s.regs t = v) : ResOf P fn s v :=
  fun _ _ _ a _ hR=>⟨a.tmps.getD t undef,by simp [Go.results,hf],hv ▸ hR.regs t⟩
theorem ResOf.none (hf : fn.results = #[]) : ResOf P fn s (.tu []) :=
  fun _ _ _ a _ hR=>⟨.tuple #[],by simp [Go.results,hf],.tu (cs:=[]) rfl (fun _ _ _ h=>by simp at h)⟩
theorem ResOf.two {t u : Nat} {v v' : AV} (hf : fn.results = #[.tmp t,.tmp u]) (hv : look s.regs t = v) (hv' : look s.regs u = v') : ResOf P fn s (.tu [v,v']) :=
  fun _ _ _ a _ hR=>⟨.tuple #[a.tmps.getD t undef,a.tmps.getD u undef],by simp [Go.results,hf],by
    have:=ConcL.cons (hv ▸ hR.regs t) (.cons (hv' ▸ hR.regs u) (.nil _));exact .tu this.1 this.2⟩
end
def args0 : List AV → Nat → List (Nat × AV)
  | [],_=>[]
  | x :: xs,i=>(i,x) :: args0 xs (i + 1)
theorem look_args0 : ∀ (xs : List AV) (i t : Nat),look (args0 xs i) t = if i ≤ t then (xs[t - i]?).getD .any else .any
  | [],i,t=>by simp [args0,look]
  | x :: xs,i,t=>by
    simp only [args0,look]
    cases hb : Nat.beq i t with
    | true =>
      have : i = t:=Nat.eq_of_beq_eq_true hb
      subst this;simp
    | false =>
      have hne : i ≠ t:=fun e=>by subst e;simp at hb
      simp only [look_args0 xs (i + 1) t]
      by_cases h : i + 1 ≤ t
      · have h' : i ≤ t:=by omega
        have e : t - i = (t - (i + 1)) + 1:=by omega
        simp [h,h',e]
      · have h' : ¬ i ≤ t:=by omega
        simp [h,h']
theorem RH.set {P : Program} [GlobF P] {B : Base P} {G : Gh} {h : List AObj} {w w' : World} (hr : RH B G h w) {r : Nat} {o : AObj} {b : Nat} (ho : h[r]? = some o) (hb : ownBlk G r o = some b) (hB : B.w.heap.size ≤ b)
    (ht : w'.tape = w.tape) (hos : w'.os = w.os) (hout : w'.output = w.output) (hdr : w.drawn ≤ w'.drawn) (hsz : w'.heap.size = w.heap.size) (hoth : ∀ b',b' ≠ b → w'.heap[b']? = w.heap[b']?)
    (himm : ∀ i v,G.imm b i = some v → w'.cell? ⟨b,i,none⟩ = some v) {o' : AObj} (hok : ObjOK B G w' r o') (hown : ∀ c,ownBlk G r o' = some c → c = b) : RH B G (h.set r o') w':=by
  have hrl : r < h.length:=(List.getElem?_eq_some_iff.1 ho).1
  refine hr.turn hr.base ht hos hout hdr (by omega) (fun b' hb'=>hoth b' (by omega)) (fun _ _ _=>rfl) (fun b' i v hv=>?_) ?_ ?_ ?_ (fun r' hr'=>hr.fresh r' (by simpa using hr'))
  · by_cases e : b' = b
    · subst e;exact himm i v hv
    · have:=hr.imm b' i v hv
      unfold World.cell? at this ⊢
      simp only [hoth b' e];exact this
  · intro r' o1 h1
    by_cases e : r' = r
    · subst e
      rw [List.getElem?_set_self hrl] at h1
      cases h1;exact hok
    · rw [List.getElem?_set_ne (Ne.symm e)] at h1
      exact (hr.obj r' o1 h1).keep (.refl G) rfl (fun _=>rfl) fun c hc _=>⟨hoth c fun ec=>e (hr.inj r' r o1 o b h1 ho (ec ▸ hc) hb),fun _ hi=>hi⟩
  · intro r1 o1 c h1 g1
    by_cases e1 : r1 = r
    · subst e1
      rw [List.getElem?_set_self hrl] at h1;cases h1
      have:=hown c g1;subst this
      exact .inr ⟨o,ho,hb⟩
    · rw [List.getElem?_set_ne (Ne.symm e1)] at h1
      exact .inr ⟨o1,h1,g1⟩
  · intro r1 r2 o1 o2 c h1 h2 g1 g2 hc
    exfalso
    by_cases e1 : r1 = r
    · subst e1
      rw [List.getElem?_set_self hrl] at h1;cases h1
      have:=hown c g1;subst this
      exact absurd ((hr.obj _ o ho).own hb).1 (by omega)
    · rw [List.getElem?_set_ne (Ne.symm e1)] at h1
      exact absurd ((hr.obj r1 o1 h1).own g1).1 (by omega)
def kill : List Nat → List AObj → List AObj
  | [],h=>h
  | r :: rs,h=>kill rs (h.set r .dead)
def MarksOK : List Nat → List AObj → Prop
  | [],_=>True
  | r :: rs,h=>h[r]? = some (.raw (.deferred (some []))) ∧ MarksOK rs (h.set r .dead)
theorem leaves {P : Program} [GlobF P] {fn : Func} {tmps : Array Value} {B : Base P} {G : Gh} {R' : Ending → World → Prop} : ∀ (ms : List Nat) (ds : List Deferred) (h : List AObj) (w : World),RH B G h w → MarksOK ms h →
    (ds.length = ms.length ∧ ∀ (i : Nat) (d : Deferred) (r : Nat),ds[i]? = some d → ms[i]? = some r → ∃ b,G.blk r = some b ∧ d = { target:=.collected b,args:=#[] }) →
    (∀ w',RH B G (kill ms h) w' → ∃ v,(results fn tmps).run P w' = .ok v w' ∧ R' (.returned v) w') → LeavesInM Fence.wide 0 P fn tmps R' ds .returning w
  | [],ds,h,w,hr,_,hd,hk=>by
    have : ds = []:=by have:=hd.1;simpa using this
    subst this
    exact hk w hr
  | r :: ms,ds,h,w,hr,hm,hd,hk=>by
    cases ds with
    | nil=>have:=hd.1;simp at this
    | cons d ds =>
      obtain ⟨b,hb,hdd⟩:=hd.2 0 d r rfl rfl
      obtain ⟨hm1,hm2⟩:=hm
      obtain ⟨b',hb1,hb2,hb3,hb4⟩:=hr.obj r _ hm1
      have : b' = b:=by rw [hb] at hb1;cases hb1;rfl
      subst this
      have hlt : b' < w.heap.size:=(Array.getElem?_eq_some_iff.1 hb3).1
      refine ⟨by simp,.inl ⟨b',w.putObj b' (.deferred none),by rw [hdd],run_takeDeferred hb3,?_⟩⟩
      refine leaves ms ds (h.set r .dead) _ ?_ hm2 ⟨by have:=hd.1;simpa using this,fun i d r hi hr=>hd.2 (i + 1) d r (by simpa using hi) (by simpa using hr)⟩ hk
      exact hr.set (w':=w.putObj b' (.deferred none)) (o':=.dead) hm1 (b:=b') hb hb2 rfl rfl rfl (Nat.le_refl _) World.putObj_size (fun c hc=>World.putObj_heap_other hc) (fun i v hv=>by rw [hb4] at hv;cases hv) trivial (fun c hc=>by cases hc)
def Ret (P : Program) [GlobF P] (fn : Func) (K : AV → List AObj → Prop) : Exit → AS → Prop
  | .normal,s | .ret,s=>MarksOK s.marks.l s.heap ∧ ∃ v,ResOf P fn { s with heap:=kill s.marks.l s.heap,marks:=⟨[],s.marks.n0⟩ } v ∧ K v (kill s.marks.l s.heap)
  | _,_=>False
theorem calls_of_W {P : Program} [GlobF P] {f : FuncId} {fn : Func} {c : Code} {vs : List Value} {xs : List AV} {h : List AObj} {K : AV → List AObj → Prop} {B : Base P} {G : Gh} {w : World} {n0 : Nat}
    (hf : P.funcs[f]? = some fn) (hb : fn.body = some c) (hn : Nat.ble xs.length fn.ntmps = true) (hn0 : n0 = h.length) (hW : W P none fn.ntmps c (Ret P fn K) ⟨args0 xs 0,h,⟨[],n0⟩⟩) (hr : RH B G h w) (hc : ConcL G vs xs) :
    Calls P f vs.toArray w fun e w'=>∃ r G' h' v,e = .returned r ∧ G.le G' ∧ RH B G' h' w' ∧ Conc G' r v ∧ K v h':=by
  refine callsIn_wide (n:=0).1 (callsIn_of_wp_marks hf hb trivial ?_ rfl)
  have hn' : xs.length ≤ fn.ntmps:=by simpa using hn
  have into : ∀ {G' : Gh} {h' : List AObj} {w' : World},RH { B with g0:=G } G' h' w' → RH B G' h' w':=fun hh =>
    ⟨hr.base.trans hh.base,hh.tape,hh.os,hh.output,hh.drawn,hh.size,hh.out,hh.imm,hh.low,fun r o ho=>by
      have:=hh.obj r o ho
      cases o <;> exact this,hh.inj,hh.fresh⟩
  have hr0 : RH { B with g0:=G } G h w:=⟨.refl G,hr.tape,hr.os,hr.output,hr.drawn,hr.size,hr.out,hr.imm,hr.low,fun r o ho=>by
      have:=hr.obj r o ho
      cases o <;> exact this,hr.inj,hr.fresh⟩
  have hR : R { B with g0:=G } fn.ntmps G ⟨args0 xs 0,h,⟨[],n0⟩⟩ { tmps:=vs.toArray ++ Array.replicate (fn.ntmps - vs.toArray.size) undef,defers:=[] } w:=by
    refine ⟨hr0,?_,fun t=>?_,⟨rfl,fun i d r hd=>by simp at hd⟩,fun r hr'=>hr.fresh r (by rw [← hn0];exact hr')⟩
    · simp [hc.1];omega
    · simp only [look_args0,Nat.zero_le,if_true,Nat.sub_zero]
      rcases Nat.lt_or_ge t xs.length with ht|ht
      · have ht' : t < vs.length:=hc.1 ▸ ht
        rw [Array.getD_eq_getD_getElem?,Array.getElem?_append_left (by simpa using ht'),List.getElem?_eq_getElem ht]
        simpa [ht'] using hc.2 t vs[t] xs[t] (List.getElem?_eq_getElem ht') (List.getElem?_eq_getElem ht)
      · rw [List.getElem?_eq_none ht];exact .any _
  refine wpIn_mono (hW { B with g0:=G } G _ w hR) ?_
  rintro e a' w' ⟨G',s',hr',hq⟩
  have key : (MarksOK s'.marks.l s'.heap ∧ ∃ v,ResOf P fn { s' with heap:=kill s'.marks.l s'.heap,marks:=⟨[],s'.marks.n0⟩ } v ∧ K v (kill s'.marks.l s'.heap)) →
      LeavesInM Fence.wide 0 P fn a'.tmps (fun e w'=>∃ r G' h' v,e = .returned r ∧ G.le G' ∧ RH B G' h' w' ∧ Conc G' r v ∧ K v h') a'.defers .returning w':=by
    rintro ⟨hm,v,hv,hk⟩
    refine leaves s'.marks.l a'.defers s'.heap w' hr'.heap hm hr'.defers fun w'' hw''=>?_
    obtain ⟨r,h1,h2⟩:=hv { B with g0:=G } fn.ntmps G' { a' with defers:=[] } w'' ⟨hw'',hr'.size,hr'.regs,⟨rfl,fun i d r hd=>by simp at hd⟩,hr'.own⟩
    exact ⟨r,h1,r,G',_,v,rfl,hw''.base,into hw'',h2,hk⟩
  cases e <;> first|exact key hq|exact hq.elim
theorem AC.of_body {P : Program} [GlobF P] {f : FuncId} {fn : Func} {c : Code} {xs : List AV} {h : List AObj} {K : AV → List AObj → Prop}
    (hf : P.funcs[f]? = some fn) {N : Nat} (hN : fn.ntmps = N) (hb : fn.body = some c) (hname : (fn.name == "runtime.NumGoroutine") = false) (hn : Nat.ble xs.length N = true) (hW : W P none N c (Ret P fn K) ⟨args0 xs 0, h, ⟨[], h.length⟩⟩) : AC P f xs h K := by
  subst hN
  exact ⟨enters_of hf hname hb,fun _ _ _ _ hr hc=>calls_of_W hf hb hn rfl hW hr hc⟩
theorem PC.of_body {P : Program} [GlobF P] {f : FuncId} {fn : Func} {c : Code} {xs : List AV} {v : AV}
    (hf : P.funcs[f]? = some fn) {N : Nat} (hN : fn.ntmps = N) (hb : fn.body = some c) (hname : (fn.name == "runtime.NumGoroutine") = false) (hn : Nat.ble xs.length N = true) (hW : W P none N c (Ret P fn fun v' _ => Le v' v) ⟨args0 xs 0, [], ⟨[], 0⟩⟩) : PC P f xs v := by
  subst hN
  exact ⟨enters_of hf hname hb,fun w imm vs hgl him hc=>by
    have hr : RH (⟨w,imm,Gh.of imm,fun b o v e=>⟨hgl.f b o v e,by
        have:=him b o v (hgl.f b o v e)
        unfold World.cell? at this
        rcases Nat.lt_or_ge b w.heap.size with h|h
        · exact h
        · simp [Array.getElem?_eq_none h] at this⟩,hgl.o⟩ : Base P) (Gh.of imm) [] w:=⟨.refl _,rfl,rfl,rfl,Nat.le_refl _,Nat.le_refl _,fun _ _=>rfl,him,fun _ _ _=>rfl,fun r o h=>by simp at h,fun r _ o _ _ h=>by simp at h,fun _ _=>⟨rfl,fun _=>rfl⟩⟩
    refine (calls_of_W hf hb hn rfl hW hr hc).mono ?_
    rintro e w' ⟨r,G',h',v',he,-,hr',hv',hle⟩
    exact ⟨r,G'.imm,he,⟨hr'.tape,hr'.os,hr'.output,hr'.drawn,hr'.size,hr'.out⟩,hr'.low,hr'.imm,hle G' r hv'⟩⟩
end Go.AL

namespace Go.AL
def cellsO : AV → Option (List AV)
  | .ag cs=>some cs
  | .sc (.agg _)=>none
  | .sc (.tuple _)=>none
  | .sc v=>some [.sc v]
  | .any=>none
  | .tu _=>none
  | x=>some [x]
theorem cellsO_conc {G : Gh} {v : Value} {x : AV} {cs : List AV} (h : Conc G v x) (hc : cellsO x = some cs) : ConcL G v.cells.toList cs:=by
  cases h with
  | any v=>simp [cellsO] at hc
  | sc v=>cases v <;> simp [cellsO] at hc <;> subst hc <;> exact .cons (.sc _) (.nil _)
  | sl us hk hcap him hc' ht=>simp [cellsO] at hc;subst hc;exact .cons (.sl us hk hcap him hc' ht) (.nil _)
  | slnil ht=>simp [cellsO] at hc;subst hc;exact .cons (.slnil ht) (.nil _)
  | slz=>simp [cellsO] at hc;subst hc;exact .cons .slz (.nil _)
  | ep us him hc'=>simp [cellsO] at hc;subst hc;exact .cons (.ep us him hc') (.nil _)
  | bp hb=>simp [cellsO] at hc;subst hc;exact .cons (.bp hb) (.nil _)
  | mr hb hn ho=>simp [cellsO] at hc;subst hc;exact .cons (.mr hb hn ho) (.nil _)
  | mc hb hn=>simp [cellsO] at hc;subst hc;exact .cons (.mc hb hn) (.nil _)
  | fn l1 l2 h1 h2=>simp [cellsO] at hc;subst hc;exact .cons (.fn l1 l2 h1 h2) (.nil _)
  | ag l h=>simp [cellsO] at hc;subst hc;exact ⟨by simpa [Value.cells] using l,by simpa [Value.cells] using h⟩
  | tu l h=>simp [cellsO] at hc
theorem RH.allocImm {P : Program} [GlobF P] {B : Base P} {G : Gh} {h : List AObj} {w : World} (hr : RH B G h w) (c : List Value) (ty : TypeId) (fz : Nat × Nat) (n : Nat) :
    G.le ⟨fun b o=>if b = w.heap.size then c[o]? else G.imm b o,G.blk,G.tl⟩ ∧
      RH B ⟨fun b o=>if b = w.heap.size then c[o]? else G.imm b o,G.blk,G.tl⟩ h { w with heap:=w.heap.push (.cells c.toArray ty fz),drawn:=w.drawn + n }:=by
  refine hr.grown ⟨rfl,rfl,rfl,by simp,by simp,fun b hb=>?_⟩ (fun b o hb=>?_) (fun b o u hu=>?_)
  · rw [Array.getElem?_push_lt hb];exact (Array.getElem?_eq_getElem hb).symm
  · rw [if_neg (by omega)]
  · by_cases e : b = w.heap.size
    · subst e
      simpa [World.cell?] using hu
    · rw [if_neg e] at hu
      have:=hr.imm b o u hu
      unfold World.cell? at this ⊢
      rw [Array.getElem?_push,if_neg e];exact this
section
variable {P : Program} [GlobF P] {fr : Option Nat} {N : Nat} {Q : Exit → AS → Prop} {s : AS} {ops : Array Oper} {rest : List Oper} {ty : TypeId} {pos : String} {af : Array Edge} {dst : Option Nat} {gd : Option (Nat × Bool)} {ρ : Operand → Option AV} {hp : List AObj}
theorem run_newVar {P0 : Program} (t : TypeId) (v : Value) (w : World) : (newVar t v).run P0 w = .ok ⟨w.heap.size,0,none⟩ (w.alloc (.cells v.cells t)):=rfl
theorem D_box {t : TypeId} {x : Operand} {v : AV} {cs : List AV} (hx : ρ x = some v) (hc : cellsO v = some cs) : PPOp P { dst:=dst,op:=.box t x,type:=ty,pos:=pos,after:=af,guard:=gd } ρ (.ep cs) :=
  PPOp.op (by simp) (fun B G a w hR E=>by
    have hv:=E _ (by first|exact List.Mem.head _|exact List.Mem.tail _ (List.Mem.head _)|exact List.Mem.tail _ (List.Mem.tail _ (List.Mem.head _))) _ hx
    have hcs:=cellsO_conc hv hc
    obtain ⟨hle,hr'⟩:=hR.allocImm (a.eval x).cells.toList t (0,0) 0
    have e : (a.eval x).cells.toList.toArray = (a.eval x).cells:=Array.toArray_toList
    rw [e] at hr'
    exact ⟨.pointer (some ⟨w.heap.size,0,none⟩),_,_,rfl,hle,hr',ep_mk (hcs.mono hle) (fun j u hu=>by simpa using hu)⟩)
theorem sl_inv {G : Gh} {v : Value} {tok : Option Nat} {k : Nat} {els : List (List AV)} (h : Conc G v (.sl tok k els)) (i : Nat) (hi : i < els.length) :
    ∃ b o cap,v = .slice (some ⟨b,o,none⟩) els.length cap ∧ els.length ≤ cap ∧ Conc G (.pointer (some ⟨b,o + i * k,none⟩)) (.ep els[i]):=by
  cases h with
  | @sl b o cap _ _ _ us hk hcap him hc ht =>
    refine ⟨b,o,cap,rfl,hcap,.ep (fun j=>us i j) (fun j hj=>him i j hi (by rw [← hk _ (List.getElem_mem hi)];exact hj)) (fun j x hx=>hc i _ j x (List.getElem?_eq_getElem hi) hx)⟩
  | slnil=>simp at hi
  | slz=>simp at hi
theorem D_idxA0 {t e : TypeId} {x ix : Operand} {tok : Option Nat} {k : Nat} {els : List (List AV)} {kk : IntKind} {i : Int} [hu : Und P t (.slice e)] [hs : Siz P e k] (hx : ρ x = some (.sl tok k els)) (hi : ρ ix = some (.sc (.int kk i))) (h0 : 0 ≤ i) (h1 : i.toNat < els.length)
    : PPOp P { dst:=dst,op:=.indexAddr t x ix,type:=ty,pos:=pos,after:=af,guard:=gd } ρ (.ep els[i.toNat]) :=
  PPOp.val (by simp) (fun B G a w hR E=>by
    obtain ⟨b,o,cap,hv,hcap,hp⟩:=sl_inv (E _ (by first|exact List.Mem.head _|exact List.Mem.tail _ (List.Mem.head _)|exact List.Mem.tail _ (List.Mem.tail _ (List.Mem.head _))) _ hx) i.toNat h1
    have h2 : i < (els.length : Int):=by omega
    exact ⟨.pointer (some ⟨b,o + i.toNat * k,none⟩),by simp [execOp,Instr.indexAt,hv,conc_sc (E _ (by first|exact List.Mem.head _|exact List.Mem.tail _ (List.Mem.head _)|exact List.Mem.tail _ (List.Mem.tail _ (List.Mem.head _))) _ hi),asIntOf,run_underlying hu.h,hs.h,h0,h2,add_none],hp⟩)
theorem D_idxA {α : Type} {t e : TypeId} {x ix : Operand} {tok : Option Nat} {k : Nat} {l : List α} {f : α → List AV} {kk : IntKind} {i : Int} [hu : Und P t (.slice e)] [hs : Siz P e k] (hx : ρ x = some (.sl tok k (l.map f))) (hi : ρ ix = some (.sc (.int kk i))) (h0 : 0 ≤ i) (h1 : i.toNat < l.length) :
    PPOp P { dst:=dst,op:=.indexAddr t x ix,type:=ty,pos:=pos,after:=af,guard:=gd } ρ (.ep (f l[i.toNat])):=by
  have:=D_idxA0 (P:=P) (ty:=ty) (pos:=pos) (af:=af) (dst:=dst) (gd:=gd) (t:=t) hx hi h0 (by simpa using h1)
  simpa using this
theorem D_idxAn {α : Type} {t e : TypeId} {x ix : Operand} {tok : Option Nat} {k : Nat} {l : List α} {f : α → List AV} {kk : IntKind} {j : Nat} [hu : Und P t (.slice e)] [hs : Siz P e k] (hx : ρ x = some (.sl tok k (l.map f))) (hi : ρ ix = some (.sc (.int kk (j : Int)))) (h1 : j < l.length) :
    PPOp P { dst:=dst,op:=.indexAddr t x ix,type:=ty,pos:=pos,after:=af,guard:=gd } ρ (.ep (f l[j])):=D_idxA hx hi (Int.natCast_nonneg j) h1
theorem bytes_get (l : List UInt8) (i : Nat) (h : i < l.length) : (ByteArray.mk l.toArray)[i]? = some l[i]:=by
  rw [ByteArray.getElem?_lt' _ _ (by simpa [ByteArray.size] using h)]
  rfl
theorem D_idxS {t : TypeId} {x ix : Operand} {l : List UInt8} {kk : IntKind} {i : Int} [hu : Und P t .string] (hx : ρ x = some (str l)) (hi : ρ ix = some (.sc (.int kk i))) (h0 : 0 ≤ i) (h1 : i.toNat < l.length)
    : PPOp P { dst:=dst,op:=.index t x ix,type:=ty,pos:=pos,after:=af,guard:=gd } ρ (.sc (.int .u8 (l[i.toNat].toNat : Int))) :=
  PPOp.val (by simp) (fun B G a w hR E=>⟨.int .u8 (l[i.toNat].toNat : Int),by
    simp [execOp,Instr.index,conc_sc (E _ (by first|exact List.Mem.head _|exact List.Mem.tail _ (List.Mem.head _)|exact List.Mem.tail _ (List.Mem.tail _ (List.Mem.head _))) _ hx),conc_sc (E _ (by first|exact List.Mem.head _|exact List.Mem.tail _ (List.Mem.head _)|exact List.Mem.tail _ (List.Mem.tail _ (List.Mem.head _))) _ hi),asIntOf,run_underlying hu.h,h0,bytes_get l _ h1],.sc _⟩)
theorem D_idxSn {t : TypeId} {x ix : Operand} {l : List UInt8} {kk : IntKind} {j : Nat} [hu : Und P t .string] (hx : ρ x = some (str l)) (hi : ρ ix = some (.sc (.int kk (j : Int)))) (h1 : j < l.length) :
    PPOp P { dst:=dst,op:=.index t x ix,type:=ty,pos:=pos,after:=af,guard:=gd } ρ (.sc (.int .u8 (l[j].toNat : Int))):=D_idxS hx hi (Int.natCast_nonneg j) h1
theorem D_ext {x : Operand} {i : Nat} {vs : List AV} {v : AV} (hx : ρ x = some (.tu vs)) (hv : vs[i]? = some v) : PPOp P { dst:=dst,op:=.extract x i,type:=ty,pos:=pos,after:=af,guard:=gd } ρ v :=
  PPOp.val (by simp) (fun B G a w hR E=>by
    have e:=E _ (by first|exact List.Mem.head _|exact List.Mem.tail _ (List.Mem.head _)|exact List.Mem.tail _ (List.Mem.tail _ (List.Mem.head _))) _ hx
    generalize he : a.eval x = u at e
    cases e with
    | @tu cs xs l hcs =>
      have hi : i < cs.length:=by rw [l];exact (List.getElem?_eq_some_iff.1 hv).1
      exact ⟨cs[i],by simp [execOp,he,Instr.extract,hi],hcs i _ v (List.getElem?_eq_getElem hi) hv⟩)
abbrev byteC (b : UInt8) : List AV:=[.sc (.int .u8 (b.toNat : Int))]
abbrev bytesAV (l : List UInt8) : AV:=.sl none 1 (l.map byteC)
theorem sl_new {G : Gh} {b cap k : Nat} {els : List (List AV)} {c : List Value} (hk : ∀ e,e ∈ els → e.length = k) (hcap : els.length ≤ cap)
    (hi : ∀ (j : Nat) (u : Value),c[j]? = some u → G.imm b j = some u) (hlen : els.length * k ≤ c.length)
    (hc : ∀ (i : Nat) (e : List AV) (j : Nat) (x : AV) (u : Value),els[i]? = some e → e[j]? = some x → c[i * k + j]? = some u → Conc G u x) : Conc G (.slice (some ⟨b,0,none⟩) els.length cap) (.sl none k els):=by
  have hin : ∀ i j,i < els.length → j < k → i * k + j < c.length:=fun i j h1 h2=>by
    have : (i + 1) * k ≤ els.length * k:=Nat.mul_le_mul_right k h1
    rw [Nat.succ_mul] at this
    omega
  refine .sl (fun i j=>(c[i * k + j]?).getD undef) hk hcap (fun i j h1 h2=>?_) (fun i e j x he hx=>?_) (fun t e=>by cases e)
  · have h3:=hin i j h1 h2
    rw [List.getElem?_eq_getElem h3]
    have:=hi (i * k + j) _ (List.getElem?_eq_getElem h3)
    simpa [Nat.add_assoc] using this
  · have h1 : i < els.length:=(List.getElem?_eq_some_iff.1 he).1
    have h2 : j < k:=by rw [← hk e (List.mem_of_getElem? he)];exact (List.getElem?_eq_some_iff.1 hx).1
    have h3:=hin i j h1 h2
    rw [List.getElem?_eq_getElem h3]
    exact hc i e j x _ he hx (List.getElem?_eq_getElem h3)
theorem run_choose {P0 : Program} (q : Question) (hq : q.forced = false) (w : World) : (choose q).run P0 w = .ok (q.cut (w.tape w.drawn q)) { w with drawn:=w.drawn + 1 }:=by
  simp [choose,Sem.run,hq]
theorem push_modify {α : Type} (a : Array α) (x : α) (f : α → α) : (a.push x).modify a.size f = a.push (f x):=by
  apply Array.ext (by simp)
  intro i h1 h2
  simp only [Array.getElem_modify,Array.getElem_push]
  split <;> split <;> first|rfl|omega|(simp_all;done)|skip
  all_goals (simp at h2;omega)
theorem D_s2b {t t' e : TypeId} {x : Operand} {l : List UInt8} [hs : Und P t .string] [hu : Und P t' (.slice e)] [he : Und P e (.int .u8)] (hx : ρ x = some (str l)) : PPOp P { dst:=dst,op:=.convert t t' x,type:=ty,pos:=pos,after:=af,guard:=gd } ρ (bytesAV l) :=
  PPOp.op (by simp) (fun B G a w hR E=>by
    let q : Question:=.appendCap l.length 0 e
    let cap:=q.cut (w.tape w.drawn q)
    have hcap : l.length ≤ cap:=by simp [cap,q,Question.cut]
    let c : List Value:=l.map (fun b=>Value.int .u8 (b.toNat : Int)) ++ List.replicate (cap - l.length) (.int .u8 0)
    obtain ⟨hle,hr'⟩:=hR.allocImm c e (c.length,c.length + 1) 1
    refine ⟨.slice (some ⟨w.heap.size,0,none⟩) l.length cap,_,_,?_,hle,hr',?_⟩
    · have e1 : (ByteArray.mk l.toArray).size = l.length:=rfl
      have e2 : (Array.map (fun b : UInt8=>Value.int .u8 (b.toNat : Int)) l.toArray ++ Array.replicate (cap - l.length) (Value.int .u8 0)) = c.toArray:=by simp [c]
      have hsz : c.length = l.length + (cap - l.length):=by simp [c]
      simp only [execOp,conc_sc (E _ (by first|exact List.Mem.head _|exact List.Mem.tail _ (List.Mem.head _)|exact List.Mem.tail _ (List.Mem.tail _ (List.Mem.head _))) _ hx),convert,Sem.run_bind,run_underlying hs.h,run_underlying hu.h,run_underlying he.h,Result.andThen,Conv.stringToBytes,e1,run_choose (P0:=P) (.appendCap l.length 0 e) rfl]
      simp only [newRow,Sem.run_bind,newObj,Sem.run,Result.andThen,Sem.run_pure]
      rw [show (Array.map (fun b : UInt8=>Value.int .u8 (b.toNat : Int)) (ByteArray.mk l.toArray).data ++ Array.replicate (Question.cut (.appendCap l.length 0 e) (w.tape w.drawn (.appendCap l.length 0 e)) - l.length) (Value.int .u8 0)) = c.toArray from e2]
      simp [markStringish,shape,Sem.run,Sem.run_bind,Result.andThen,World.shape?,freeze,World.freeze,c,hsz]
      rw [show List.replicate (cap - l.length) (Value.int .u8 0) = List.replicate (cap - l.length) (Value.int .u8 0) from rfl]
      simp [push_modify]
      rfl
    · refine (show (bytesAV l) = .sl none 1 (l.map byteC) from rfl) ▸ ?_
      have:=sl_new (G:=⟨fun b o=>if b = w.heap.size then c[o]? else G.imm b o,G.blk,G.tl⟩) (b:=w.heap.size) (cap:=cap) (k:=1) (els:=l.map byteC) (c:=c)
        (fun e he=>by obtain ⟨b,_,rfl⟩:=List.mem_map.1 he;rfl) (by simpa using hcap) (fun j u hu=>by simpa using hu) (by simp [c]) (fun i e j x u he hx hu=>by
          simp only [List.getElem?_map,Option.map_eq_some_iff] at he
          obtain ⟨b,hb,rfl⟩:=he
          have hj : j = 0:=by
            have:=(List.getElem?_eq_some_iff.1 hx).1
            simpa using this
          subst hj
          have hi : i < l.length:=(List.getElem?_eq_some_iff.1 hb).1
          simp at hx;subst hx
          have hb' : b = l[i]:=by rw [List.getElem?_eq_getElem hi] at hb;cases hb;rfl
          simp [c,List.getElem?_append_left,hi] at hu
          subst hu;subst hb';exact .sc _)
      simpa using this)
end
end Go.AL
