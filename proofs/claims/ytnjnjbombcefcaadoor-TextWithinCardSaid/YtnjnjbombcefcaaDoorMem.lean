/- The rules of the abstract logic, sixth part: boxes: laid, written, read. No condition. -/
import Derived.Test.YtnjnjbombcefcaaDoorDraw
import Derived.Laws.Cells
import Derived.Laws.CopyRow
import Derived.Laws.Strings2
set_option linter.all false
namespace Go.AL
theorem RH.allocObj {P : Program} [GlobF P] {B : Base P} {G G' : Gh} {h : List AObj} {w w' : World} (hr : RH B G h w) (o : AObj) (hg : G.le G') (ht : w'.tape = w.tape) (hos : w'.os = w.os) (hout : w'.output = w.output) (hdr : w.drawn ≤ w'.drawn)
    (hsz : w.heap.size ≤ w'.heap.size) (hold : ∀ b,b < w.heap.size → w'.heap[b]? = w.heap[b]?) (himm : ∀ b o,b < w.heap.size → G'.imm b o = G.imm b o) (him : ∀ b o v,G'.imm b o = some v → w'.cell? ⟨b,o,none⟩ = some v)
    (hsame : ∀ r,r ≠ h.length → G'.blk r = G.blk r ∧ ∀ n,G'.tl r n = G.tl r n) (hok : ObjOK B G' w' h.length o) (hown : ∀ b,ownBlk G' h.length o = some b → w.heap.size ≤ b) : RH B G' (h ++ [o]) w':=by
  have hcase : ∀ r x,(h ++ [o])[r]? = some x → (r < h.length ∧ h[r]? = some x) ∨ (r = h.length ∧ x = o):=fun r x hx=>by
    rcases Nat.lt_or_ge r h.length with hrl|hrl
    · rw [List.getElem?_append_left hrl] at hx;exact .inl ⟨hrl,hx⟩
    · have : r = h.length:=by
        have:=(List.getElem?_eq_some_iff.1 hx).1
        simp at this;omega
      subst this
      rw [List.getElem?_append_right (by omega)] at hx
      simp at hx;exact .inr ⟨rfl,hx.symm⟩
  refine hr.turn (hr.base.trans hg) ht hos hout hdr hsz (fun b hb=>hold b (Nat.lt_of_lt_of_le hb hr.size)) (fun b o hb=>himm b o (Nat.lt_of_lt_of_le hb hr.size)) him ?_ ?_ ?_ ?_
  · intro r x hx
    rcases hcase r x hx with ⟨hrl,h1⟩ | ⟨rfl,rfl⟩
    · obtain ⟨e1,e2⟩:=hsame r (by omega)
      exact (hr.obj r x h1).keep hg e1 e2 fun b _ hb=>⟨hold b hb,fun i hi=>by rw [himm b i hb];exact hi⟩
    · exact hok
  · intro r x b hx hb
    rcases hcase r x hx with ⟨hrl,h1⟩ | ⟨rfl,rfl⟩
    · obtain ⟨e1,e2⟩:=hsame r (by omega)
      rw [ownBlk.congr e1 e2] at hb
      exact .inr ⟨x,h1,hb⟩
    · exact .inl (hown b hb)
  · intro r r' x x' b hx hx' hb hb' hlt
    have key : ∀ r x,(h ++ [o])[r]? = some x → ownBlk G' r x = some b → r = h.length:=fun r x hx hb=>by
      rcases hcase r x hx with ⟨hrl,h1⟩ | ⟨e,_⟩
      · obtain ⟨e1,e2⟩:=hsame r (by omega)
        rw [ownBlk.congr e1 e2] at hb
        exact absurd ((hr.obj r x h1).own hb).1 (by omega)
      · exact e
    rw [key r x hx hb,key r' x' hx' hb']
  · intro r hrl
    simp at hrl
    obtain ⟨e1,e2⟩:=hsame r (by omega)
    obtain ⟨f1,f2⟩:=hr.fresh r (by omega)
    exact ⟨e1.trans f1,fun n=>(e2 n).trans (f2 n)⟩
theorem RH.allocBoxO {P : Program} [GlobF P] {B : Base P} {G : Gh} {h : List AObj} {w : World} (hr : RH B G h w) (c : List Value) (xs : List AV) (ty : TypeId) (hc : ConcL G c xs) (n : Nat) (tp : Bool) :
    G.le ⟨G.imm,fun r=>if r = h.length then some w.heap.size else G.blk r,G.tl⟩ ∧
      RH B ⟨G.imm,fun r=>if r = h.length then some w.heap.size else G.blk r,G.tl⟩ (h ++ [.cells xs (if tp then some ty else none)]) { w with heap:=w.heap.push (.cells c.toArray ty (0,0)),drawn:=w.drawn + n }:=by
  have hle : G.le ⟨G.imm,fun r=>if r = h.length then some w.heap.size else G.blk r,G.tl⟩:=⟨fun _ _ _ e=>e,fun r b e=>by
    show (if r = h.length then some w.heap.size else G.blk r) = some b
    by_cases hrl : r = h.length
    · have:=(hr.fresh r (by omega)).1;rw [this] at e;cases e
    · rw [if_neg hrl];exact e,fun _ _ _ e=>e⟩
  have hold : ∀ b,b < w.heap.size → (w.heap.push (.cells c.toArray ty (0,0)))[b]? = w.heap[b]?:=fun b hb=>by
    rw [Array.getElem?_push_lt hb];exact (Array.getElem?_eq_getElem hb).symm
  refine ⟨hle,hr.allocObj _ hle rfl rfl rfl (Nat.le_add_right _ _) (by simp) hold (fun _ _ _=>rfl) (fun b o v hv=>?_) (fun r hne=>⟨if_neg hne,fun _=>rfl⟩) ?_ (fun b hb=>?_)⟩
  · have:=hr.imm b o v hv
    unfold World.cell? at this ⊢
    simp only [hold b (hr.lt hv)];exact this
  · refine ⟨w.heap.size,c,⟨ty,fun T e=>by cases tp <;> simp at e;exact e⟩,if_pos rfl,hr.size,by simp,hc.mono hle,fun o=>?_⟩
    show G.imm w.heap.size o = none
    cases hi : G.imm w.heap.size o with
    | none=>rfl
    | some v=>exact absurd (hr.lt hi) (by omega)
  · simp only [ownBlk,if_pos] at hb
    cases hb;exact Nat.le_refl _
theorem RH.allocBox {P : Program} [GlobF P] {B : Base P} {G : Gh} {h : List AObj} {w : World} (hr : RH B G h w) (c : List Value) (xs : List AV) (ty : TypeId) (hc : ConcL G c xs) (n : Nat) :
    G.le ⟨G.imm,fun r=>if r = h.length then some w.heap.size else G.blk r,G.tl⟩ ∧
      RH B ⟨G.imm,fun r=>if r = h.length then some w.heap.size else G.blk r,G.tl⟩ (h ++ [.cells xs]) { w with heap:=w.heap.push (.cells c.toArray ty (0,0)),drawn:=w.drawn + n }:=hr.allocBoxO c xs ty hc n false
theorem RH.allocBoxT {P : Program} [GlobF P] {B : Base P} {G : Gh} {h : List AObj} {w : World} (hr : RH B G h w) (c : List Value) (xs : List AV) (ty : TypeId) (hc : ConcL G c xs) (n : Nat) :
    G.le ⟨G.imm,fun r=>if r = h.length then some w.heap.size else G.blk r,G.tl⟩ ∧
      RH B ⟨G.imm,fun r=>if r = h.length then some w.heap.size else G.blk r,G.tl⟩ (h ++ [.cells xs (some ty)]) { w with heap:=w.heap.push (.cells c.toArray ty (0,0)),drawn:=w.drawn + n }:=hr.allocBoxO c xs ty hc n true
section
variable {P : Program} [GlobF P] {fr : Option Nat} {N : Nat} {Q : Exit → AS → Prop} {ops : Array Oper} {rest : List Oper} {rg : List (Nat × AV)} {h : List AObj} {mk : Mk} {ty : TypeId} {pos : String} {af : Array Edge} {d : Nat}
theorem m_alloc {t : TypeId} {z : Value} [hz : Zer P t z] (hd : Nat.blt d N = true)
    (hk : WL P fr N ops rest Q ⟨(d,.bp h.length 0) :: rg,h ++ [.cells (z.cells.toList.map .sc)],mk⟩) :
    WL P fr N ops ({ dst:=some d,op:=.alloc t,type:=ty,pos:=pos,after:=af,guard:=none } :: rest) Q ⟨rg,h,mk⟩ :=
  WL_op (s:=⟨rg,h,mk⟩) hd (by simp) (fun B G a w hr=>by
    have hc : ConcL G z.cells.toList (z.cells.toList.map AV.sc):=⟨by simp,fun i v x hv hx=>by
      rw [List.getElem?_map,hv] at hx;simp at hx;subst hx;exact .sc v⟩
    obtain ⟨hle,hr'⟩:=hr.heap.allocBox z.cells.toList _ t hc 0
    refine ⟨.pointer (some ⟨w.heap.size,0,none⟩),_,_,?_,hle,hr',.bp (if_pos rfl)⟩
    have e : z.cells.toList.toArray = z.cells:=Array.toArray_toList
    rw [e]
    simp only [execOp,Instr.alloc,Sem.run_bind,Sem.run_pure,hz.h,Result.andThen_ok,run_newVar]
    rfl) hk
def AV.one : AV → Bool
  | .sc u=>u.oneCell'
  | .sl _ _ _=>true
  | .ep _=>true
  | .bp _ _=>true
  | .mr _ _ _=>true
  | .mc _ _ _=>true
  | .fn _ _ _=>true
  | _=>false
theorem AV.one_ok {G : Gh} {v : Value} {x : AV} (hc : Conc G v x) (h : x.one = true) : v.oneCell' = true:=by
  cases hc <;> simp_all [AV.one,Value.oneCell']
theorem conc_bp {G : Gh} {v : Value} {r off : Nat} (hc : Conc G v (.bp r off)) : ∃ b,v = .pointer (some ⟨b,off,none⟩) ∧ G.blk r = some b:=by
  cases hc with
  | bp hb=>exact ⟨_,rfl,hb⟩
theorem S_store {gd : Option (Nat × Bool)} {ρ : Operand → Option AV} {t : TypeId} {x y : Operand} {r off k : Nat} {u : AV} {cs xs : List AV} {tp : Option TypeId} [hs : Siz P t k] (hx : ρ x = some (.bp r off)) (hy : ρ y = some u) (hu : cellsO u = some cs)
    (hr : h[r]? = some (.cells xs tp)) (hk : Nat.beq cs.length k = true) (hone : cs.all AV.one = true) (hoff : Nat.ble (off + k) xs.length = true) :
    POpS P { dst:=none,op:=.store t x y,type:=ty,pos:=pos,after:=af,guard:=gd } ρ h [r] (.sc undef) (some (r,.cells (xs.take off ++ cs ++ xs.drop (off + k)) tp)):=by
  intro fr B G a w h' hl hsl hR E
  have ex:=E x (by first|exact List.Mem.head _|exact List.Mem.tail _ (List.Mem.head _)) _ hx
  have ey:=E y (by first|exact List.Mem.head _|exact List.Mem.tail _ (List.Mem.head _)) _ hy
  have hr' : h'[r]? = some (.cells xs tp):=(hsl r (.head _)).trans hr
  obtain ⟨b,hv,hb⟩:=conc_bp ex
  obtain ⟨b',c,ty',g1,g2,g3,g4,g5⟩:=hR.obj r _ hr'
  have hbb : b' = b:=by rw [hb] at g1;exact (Option.some.inj g1).symm
  subst hbb
  have hcs:=cellsO_conc ey hu
  have hkl : cs.length = k:=Nat.eq_of_beq_eq_true hk
  have hoff' : off + k ≤ xs.length:=by simpa using hoff
  have hvl : (a.eval y).cells.toList.length = k:=by rw [hcs.1,hkl]
  have h1 : ∀ v ∈ (a.eval y).cells.toList,v.oneCell' = true:=fun v hv=>by
    obtain ⟨i,hi,e⟩:=List.getElem_of_mem hv
    have hi2 : i < cs.length:=by rw [← hcs.1];exact hi
    exact AV.one_ok (hcs.2 i v _ (by rw [List.getElem?_eq_getElem hi,e]) (List.getElem?_eq_getElem hi2)) (List.all_eq_true.1 hone _ (List.getElem_mem hi2))
  have hrun:=Go.run_storeCells_at (P:=P) b' off ty' (a.eval y).cells.toList 0 c.toArray w g3 (by simp [hvl,g4.1];omega) h1
  refine ⟨fun f _=>fence_fn fr f,?_⟩
  rw [Oper.semAt_eq _ _ _ (by simp)]
  have hlist : (c.toArray.toList.take (off + 0) ++ (a.eval y).cells.toList ++ c.toArray.toList.drop (off + 0 + (a.eval y).cells.toList.length)) = c.take off ++ (a.eval y).cells.toList ++ c.drop (off + k):=by
    rw [hvl];simp
  rw [hlist] at hrun
  have hex : (execOp a.eval { dst:=none,op:=.store t x y,type:=ty,pos:=pos,after:=af,guard:=gd }).run P w = .ok .skip (w.setRow b' (c.take off ++ (a.eval y).cells.toList ++ c.drop (off + k)).toArray):=by
    have hsz : (a.eval y).cells.size = k:=by rw [← hvl];simp
    simp [execOp,hv,Instr.storeAt,Instr.sureAddr,storeVar,hs.h,hsz,hrun,Result.andThen]
  rw [hex]
  have hcl : (c.take off ++ (a.eval y).cells.toList ++ c.drop (off + k)).length = c.length:=by
    have:=g4.1
    simp only [List.length_append,List.length_take,List.length_drop,hvl];omega
  have hconc : ConcL G (c.take off ++ (a.eval y).cells.toList ++ c.drop (off + k)) (xs.take off ++ cs ++ xs.drop (off + k)):=ConcL.append (ConcL.append (g4.take off) hcs) (g4.drop (off + k))
  refine ⟨undef,G,rfl,.refl G,?_,.sc _⟩
  refine hR.set (w':=w.setRow b' (c.take off ++ (a.eval y).cells.toList ++ c.drop (off + k)).toArray) (b:=b') hr' g1 g2 rfl rfl rfl (Nat.le_refl _) (by simp) (fun b hb=>setRow_other _ _ _ _ hb) (fun i v hi=>by rw [g5 i] at hi;cases hi) ?_ (fun c' hc'=>?_)
  · exact ⟨b',_,ty',g1,g2,setRow_heap w b' c.toArray _ ty' (0,0) g3,hconc,g5⟩
  · simp only [ownBlk] at hc';rw [g1] at hc';exact (Option.some.inj hc').symm
theorem S_alloc {gd : Option (Nat × Bool)} {ρ : Operand → Option AV} {t : TypeId} {z : Value} (r : Nat) [hz : Zer P t z] (hr : h[r]? = some .free) :
    POpS P { dst:=some d,op:=.alloc t,type:=ty,pos:=pos,after:=af,guard:=gd } ρ h [r] (.bp r 0) (some (r,.cells (z.cells.toList.map .sc))):=by
  intro fr B G a w h' hl hsl hR E
  have hr' : h'[r]? = some .free:=(hsl r (.head _)).trans hr
  have hrl : r < h'.length:=(List.getElem?_eq_some_iff.1 hr').1
  obtain ⟨f1,f2⟩:=hR.obj r _ hr'
  refine ⟨fun f _=>fence_fn fr f,?_⟩
  rw [Oper.semAt_eq _ _ _ (by simp)]
  have hex : (execOp a.eval { dst:=some d,op:=.alloc t,type:=ty,pos:=pos,after:=af,guard:=gd }).run P w = .ok (.value (.pointer (some ⟨w.heap.size,0,none⟩))) (w.alloc (.cells z.cells t)):=by
    simp only [execOp,Instr.alloc,Sem.run_bind,Sem.run_pure,hz.h,Result.andThen_ok,run_newVar]
  rw [hex]
  have hc : ConcL G z.cells.toList (z.cells.toList.map AV.sc):=⟨by simp,fun i v x hv hx=>by
      rw [List.getElem?_map,hv] at hx;simp at hx;subst hx;exact .sc v⟩
  have hle : G.le ⟨G.imm,fun q=>if q = r then some w.heap.size else G.blk q,G.tl⟩:=⟨fun _ _ _ e=>e,fun q b e=>by
    show (if q = r then some w.heap.size else G.blk q) = some b
    by_cases hrl : q = r
    · subst hrl;rw [f1] at e;cases e
    · rw [if_neg hrl];exact e,fun _ _ _ e=>e⟩
  have hold : ∀ b,b < w.heap.size → (w.alloc (.cells z.cells t)).heap[b]? = w.heap[b]?:=fun b hb=>by
    show (w.heap.push _)[b]? = _
    rw [Array.getElem?_push_lt hb];exact (Array.getElem?_eq_getElem hb).symm
  have hne : ∀ q,q ≠ r → (if q = r then some w.heap.size else G.blk q) = G.blk q:=fun q hq=>if_neg hq
  refine ⟨_,⟨G.imm,fun q=>if q = r then some w.heap.size else G.blk q,G.tl⟩,rfl,hle,?_,.bp (if_pos rfl)⟩
  have hcase : ∀ (q : Nat) (x : AObj),(h'.set r (.cells (z.cells.toList.map .sc)))[q]? = some x → (q = r ∧ x = .cells (z.cells.toList.map .sc)) ∨ (q ≠ r ∧ h'[q]? = some x):=fun q x hx=>by
    by_cases e : q = r
    · subst e;rw [List.getElem?_set_self hrl] at hx;exact .inl ⟨rfl,(Option.some.inj hx).symm⟩
    · rw [List.getElem?_set_ne (Ne.symm e)] at hx;exact .inr ⟨e,hx⟩
  refine hR.turn (hR.base.trans hle) rfl rfl rfl (Nat.le_refl _) (by simp) (fun b hb=>hold b (Nat.lt_of_lt_of_le hb hR.size)) (fun _ _ _=>rfl) (fun b o v hv=>?_) (fun q x hx=>?_) (fun q x b hx hb=>?_) (fun q q' x x' b hx hx' hb hb' hlt=>?_) (fun q hq=>?_)
  · have:=hR.imm b o v hv
    unfold World.cell? at this ⊢
    simp only [hold b (hR.lt hv)];exact this
  · rcases hcase q x hx with ⟨rfl,rfl⟩ | ⟨e,hx⟩
    · refine ⟨w.heap.size,z.cells.toList,⟨t,fun _ e=>by cases e⟩,if_pos rfl,hR.size,?_,hc.mono hle,fun o=>?_⟩
      · show (w.heap.push _)[w.heap.size]? = _
        simp
      · show G.imm w.heap.size o = none
        cases hi : G.imm w.heap.size o with
        | none=>rfl
        | some v=>exact absurd (hR.lt hi) (by omega)
    · exact (hR.obj q x hx).keep hle (hne q e) (fun _=>rfl) fun b _ hb=>⟨hold b hb,fun i hi=>hi⟩
  · rcases hcase q x hx with ⟨rfl,rfl⟩ | ⟨e,hx⟩
    · simp only [ownBlk,if_pos] at hb;cases hb;exact .inl (Nat.le_refl _)
    · rw [ownBlk.congr (G:=G) (G':=⟨G.imm,fun q=>if q = r then some w.heap.size else G.blk q,G.tl⟩) (hne q e) (fun _=>rfl)] at hb;exact .inr ⟨x,hx,hb⟩
  · have key : ∀ q x,(h'.set r (.cells (z.cells.toList.map .sc)))[q]? = some x → ownBlk ⟨G.imm,fun q=>if q = r then some w.heap.size else G.blk q,G.tl⟩ q x = some b → q = r:=fun q x hx hb=>by
      rcases hcase q x hx with ⟨rfl,rfl⟩ | ⟨e,hx⟩
      · rfl
      · rw [ownBlk.congr (G:=G) (G':=⟨G.imm,fun q=>if q = r then some w.heap.size else G.blk q,G.tl⟩) (hne q e) (fun _=>rfl)] at hb
        exact absurd ((hR.obj q x hx).own hb).1 (by omega)
    rw [key q x hx hb,key q' x' hx' hb']
  · have hq : h'.length ≤ q:=by simpa [appU] using hq
    obtain ⟨k1,k2⟩:=hR.fresh q hq
    exact ⟨(hne q (by omega)).trans k1,k2⟩
def frz (r : Nat) (cells : List AV) : AV → AV
  | .bp r' off=>if Nat.beq r' r then .ep (cells.drop off) else .bp r' off
  | .fn f xs ys=>.fn f xs (ys.map fun | .bp r' off=>if Nat.beq r' r then .ep (cells.drop off) else .bp r' off|y=>y)
  | x=>x
theorem frz_ok {G : Gh} {r b : Nat} {c : List Value} {cells : List AV} (hb : G.blk r = some b) (hc : ConcL G c cells) (him : ∀ j u,c[j]? = some u → G.imm b j = some u) {v : Value} {x : AV} (h : Conc G v x) : Conc G v (frz r cells x):=by
  have bp : ∀ {v : Value} {r' off : Nat},Conc G v (.bp r' off) → Conc G v (if Nat.beq r' r then .ep (cells.drop off) else .bp r' off):=fun {v r' off} h=>by
    split
    · rename_i e
      have e' : r' = r:=Nat.eq_of_beq_eq_true e
      subst e'
      obtain ⟨b',rfl,h2⟩:=conc_bp h
      rw [hb] at h2;cases h2
      exact ep_mk (hc.drop off) fun j u hu=>by rw [List.getElem?_drop] at hu;exact him _ _ hu
    · exact h
  cases x with
  | bp r' off=>exact bp h
  | fn f xs ys =>
    cases h with
    | fn l1 l2 h1 h2 =>
      refine .fn l1 (by simpa using l2) h1 fun i v y hv hy=>?_
      rw [List.getElem?_map] at hy
      cases hyi : ys[i]? with
      | none=>rw [hyi] at hy;cases hy
      | some y0 =>
        rw [hyi] at hy
        simp only [Option.map_some,Option.some.injEq] at hy
        have:=h2 i v y0 hv hyi
        subst hy
        cases y0 <;> first|exact this|exact bp this
  | _=>exact h
theorem look_map (f : AV → AV) (hf : f .any = .any) : ∀ (rg : List (Nat × AV)) (t : Nat),look (rg.map fun p=>(p.1,f p.2)) t = f (look rg t)
  | [],t=>by simp [look,hf]
  | (u,v) :: l,t=>by
    simp only [List.map_cons,look]
    cases Nat.beq u t with
    | true=>rfl
    | false=>exact look_map f hf l t
theorem R.freeze {B : Base P} {N : Nat} {G : Gh} {a : Act} {w : World} {r : Nat} {xs : List AV} (hR : R B N G ⟨rg,h,mk⟩ a w) (hr : h[r]? = some (.cells xs)) :
    ∃ G',G.le G' ∧ R B N G' ⟨rg.map fun p=>(p.1,frz r xs p.2),h.set r .dead,mk⟩ a w:=by
  obtain ⟨b,c,ty',g1,g2,g3,g4,g5⟩:=hR.heap.obj r _ hr
  have hrl : r < h.length:=(List.getElem?_eq_some_iff.1 hr).1
  have hne : ∀ b' o v,G.imm b' o = some v → b' ≠ b:=fun b' o v e eb=>by subst eb;rw [g5 o] at e;cases e
  have hle : G.le ⟨fun b' o=>if b' = b then c[o]? else G.imm b' o,G.blk,G.tl⟩:=⟨fun b' o v e=>by
    show (if b' = b then c[o]? else G.imm b' o) = some v
    rw [if_neg (hne b' o v e)];exact e,fun _ _ e=>e,fun _ _ _ e=>e⟩
  have hh:=hR.heap
  refine ⟨_,hle,?_,hR.size,fun t=>?_,hR.defers,hR.own⟩
  · refine hh.turn (hh.base.trans hle) rfl rfl rfl (Nat.le_refl _) (Nat.le_refl _) (fun _ _=>rfl) (fun b' o hb'=>if_neg (by omega)) (fun b' o v hv=>?_) ?_ ?_ ?_ (fun r' hr'=>hh.fresh r' (by simpa using hr'))
    · by_cases e : b' = b
      · subst e
        have hv' : (if b' = b' then c[o]? else G.imm b' o) = some v:=hv
        rw [if_pos rfl] at hv'
        simp [World.cell?,g3,hv']
      · have hv' : (if b' = b then c[o]? else G.imm b' o) = some v:=hv
        rw [if_neg e] at hv'
        exact hh.imm _ _ _ hv'
    · intro r' o' ho'
      by_cases e : r' = r
      · subst e
        rw [List.getElem?_set_self hrl] at ho'
        cases ho';trivial
      · rw [List.getElem?_set_ne (Ne.symm e)] at ho'
        refine (hh.obj r' o' ho').keep hle rfl (fun _=>rfl) fun b1 hb1 _=>⟨rfl,fun i hi=>?_⟩
        show (if b1 = b then c[i]? else G.imm b1 i) = none
        rw [if_neg fun eb : b1 = b=>e (hh.inj r' r o' _ b ho' hr (eb ▸ hb1) g1)];exact hi
    · intro r1 o1 b' h1 h3
      by_cases e : r1 = r
      · subst e
        rw [List.getElem?_set_self hrl] at h1
        cases h1;cases h3
      · rw [List.getElem?_set_ne (Ne.symm e)] at h1
        exact .inr ⟨o1,h1,by rw [← h3];exact (ownBlk.congr rfl (fun _=>rfl) o1).symm⟩
    · intro r1 r2 o1 o2 b' h1 h2 h3 h4 hlt
      exfalso
      by_cases e : r1 = r
      · subst e
        rw [List.getElem?_set_self hrl] at h1
        cases h1;cases h3
      · rw [List.getElem?_set_ne (Ne.symm e)] at h1
        rw [ownBlk.congr (G:=G) (G':=⟨fun b' o=>if b' = b then c[o]? else G.imm b' o,G.blk,G.tl⟩) rfl (fun _=>rfl) o1] at h3
        exact absurd ((hh.obj r1 o1 h1).own h3).1 (by omega)
  · show Conc _ (a.tmps.getD t undef) (look (rg.map fun p=>(p.1,frz r xs p.2)) t)
    rw [look_map (frz r xs) rfl]
    refine frz_ok (c:=c) (b:=b) ?_ (g4.mono hle) (fun j u hu=>?_) ((hR.regs t).mono hle)
    · exact g1
    show (if b = b then c[j]? else G.imm b j) = some u
    rw [if_pos rfl];exact hu
theorem m_freeze {l : List Oper} (r : Nat) {xs : List AV} (hr : h[r]? = some (.cells xs)) (hk : WL P fr N ops l Q ⟨rg.map fun p=>(p.1,frz r xs p.2),h.set r .dead,mk⟩) : WL P fr N ops l Q ⟨rg,h,mk⟩:=by
  intro B G a w hR
  obtain ⟨G',hle,hR'⟩:=hR.freeze hr
  exact hk B G' a w hR'
end
section
variable {P : Program} [GlobF P] {ty : TypeId} {pos : String} {af : Array Edge} {dst : Option Nat} {gd : Option (Nat × Bool)} {ρ : Operand → Option AV} {hp : List AObj}
theorem box_inv {B : Base P} {G : Gh} {w : World} {r : Nat} {xs : List AV} {tp : Option TypeId} (hr : RH B G hp w) (ho : hp[r]? = some (.cells xs tp)) {v : Value} {off : Nat} (hv : Conc G v (.bp r off)) :
    ∃ (b : Nat) (c : List Value),v = .pointer (some ⟨b,off,none⟩) ∧ ConcL G c xs ∧ ∀ j u,c[j]? = some u → w.cell? ⟨b,j,none⟩ = some u:=by
  obtain ⟨b,rfl,hb⟩:=conc_bp hv
  obtain ⟨b',c,ty',g1,g2,g3,g4,g5⟩:=hr.obj r _ ho
  rw [hb] at g1;cases g1
  exact ⟨b,c,rfl,g4,fun j u hu=>by simp [World.cell?,g3,hu]⟩
theorem D_loadB1 {t : TypeId} {x : Operand} {r off : Nat} {xs : List AV} {c : AV} {tp : Option TypeId} [ha : Agg P t false] (hx : ρ x = some (.bp r off)) (ho : hp[r]? = some (.cells xs tp)) (hc : xs[off]? = some c) :
    POp P { dst:=dst,op:=.load t x,type:=ty,pos:=pos,after:=af,guard:=gd } ρ hp c :=
  POp.val (by simp) (fun B G act w hR E=>by
    obtain ⟨b,cs,hv,h1,h2⟩:=box_inv hR ho (E _ (by first|exact List.Mem.head _|exact List.Mem.tail _ (List.Mem.head _)) _ hx)
    have hlt : off < cs.length:=by rw [h1.1];exact (List.getElem?_eq_some_iff.1 hc).1
    have hcell:=h2 off cs[off] (List.getElem?_eq_getElem hlt)
    exact ⟨cs[off],by simp [execOp,hv,Instr.loadAt,Instr.sureAddr,loadVar,ha.h,load,Sem.run,hcell],h1.2 off _ _ (List.getElem?_eq_getElem hlt) hc⟩)
theorem D_loadBA {t : TypeId} {x : Operand} {r off n : Nat} {xs : List AV} {tp : Option TypeId} [ha : Agg P t true] [hs : Siz P t n] (hx : ρ x = some (.bp r off)) (ho : hp[r]? = some (.cells xs tp)) (hn : Nat.ble (off + n) xs.length = true) :
    POp P { dst:=dst,op:=.load t x,type:=ty,pos:=pos,after:=af,guard:=gd } ρ hp (.ag ((xs.drop off).take n)) :=
  POp.val (by simp) (fun B G act w hR E=>by
    obtain ⟨b,cs,hv,h1,h2⟩:=box_inv hR ho (E _ (by first|exact List.Mem.head _|exact List.Mem.tail _ (List.Mem.head _)) _ hx)
    have hn' : off + n ≤ cs.length:=by rw [h1.1];simpa using hn
    have hl:=run_loadCells_list (P:=P) w ⟨b,off,none⟩ ((cs.drop off).take n) (fun j v hj=>by
      rw [add_none]
      rw [List.getElem?_take] at hj
      split at hj
      · rw [List.getElem?_drop] at hj;exact h2 _ v hj
      · cases hj)
    have hlen : ((cs.drop off).take n).length = n:=by simp;omega
    rw [hlen] at hl
    have hc:=(h1.drop off).take n
    exact ⟨.agg ((cs.drop off).take n).toArray,by simp [execOp,hv,Instr.loadAt,Instr.sureAddr,loadVar,ha.h,hs.h,hl],.ag hc.1 hc.2⟩)
theorem D_fldB {t : TypeId} {x : Operand} {f off r o : Nat} [hf : Fld P t f off] (hx : ρ x = some (.bp r o)) : PPOp P { dst:=dst,op:=.fieldAddr t x f,type:=ty,pos:=pos,after:=af,guard:=gd } ρ (.bp r (o + off)) :=
  PPOp.val (by simp) (fun B G act w hR E=>by
    obtain ⟨b,hv,hb⟩:=conc_bp (E _ (by first|exact List.Mem.head _|exact List.Mem.tail _ (List.Mem.head _)) _ hx)
    exact ⟨.pointer (some ⟨b,o + off,none⟩),by simp [execOp,hv,hf.h,add_none],.bp hb⟩)
end
end Go.AL

namespace Go.AL
theorem extract_list (l : List UInt8) (i j : Nat) : (⟨l.toArray⟩ : ByteArray).extract i j = ⟨((l.take j).drop i).toArray⟩:=by
  apply ByteArray.ext
  apply Array.ext'
  simp only [ByteArray.data_extract,List.extract_toArray,List.extract_eq_take_drop,List.drop_take]
section
variable {P : Program} [GlobF P] {ty : TypeId} {pos : String} {af : Array Edge} {dst : Option Nat} {gd : Option (Nat × Bool)} {ρ : Operand → Option AV} {hp : List AObj}
theorem sliceAt_str {P0 : Program} {t : TypeId} [hu : Und P0 t .string] (s : ByteArray) (lo hi : Option Value) (w : World) : (Instr.sliceAt t (.string s) lo hi none).run P0 w = (Instr.slice t (.string s) lo hi none).run P0 w:=by
  simp [Instr.sliceAt,run_underlying hu.h]
theorem D_slS {t : TypeId} {x y z : Operand} {k k' : IntKind} {l : List UInt8} {i j : Int} [hu : Und P t .string] (hx : ρ x = some (str l)) (hy : ρ y = some (.sc (.int k i))) (hz : ρ z = some (.sc (.int k' j)))
    (h0 : 0 ≤ i) (h1 : i ≤ j) (h2 : j ≤ l.length) : PPOp P { dst:=dst,op:=.slice t x (some y) (some z) none,type:=ty,pos:=pos,after:=af,guard:=gd } ρ (str ((l.take j.toNat).drop i.toNat)) :=
  PPOp.val (by simp) (fun B G act w hR E=>⟨.string ⟨((l.take j.toNat).drop i.toNat).toArray⟩,by
    have e0:=conc_sc (E x (by simp [Op.operands]) _ hx)
    have e1:=conc_sc (E y (by simp [Op.operands]) _ hy)
    have e2:=conc_sc (E z (by simp [Op.operands]) _ hz)
    simp only [execOp,e0,e1,e2,Option.map_some,Option.map_none,Sem.run_bind,sliceAt_str]
    rw [run_slice_string w t _ k k' i j hu.h h0 h1 (by simpa [ByteArray.size] using h2),extract_list]
    rfl,.sc _⟩)
theorem D_slSh {t : TypeId} {x z : Operand} {k' : IntKind} {l : List UInt8} {j : Int} [hu : Und P t .string] (hx : ρ x = some (str l)) (hz : ρ z = some (.sc (.int k' j)))
    (h1 : 0 ≤ j) (h2 : j ≤ l.length) : PPOp P { dst:=dst,op:=.slice t x none (some z) none,type:=ty,pos:=pos,after:=af,guard:=gd } ρ (str (l.take j.toNat)) :=
  PPOp.val (by simp) (fun B G act w hR E=>⟨.string ⟨(l.take j.toNat).toArray⟩,by
    have e0:=conc_sc (E x (by simp [Op.operands]) _ hx)
    have e2:=conc_sc (E z (by simp [Op.operands]) _ hz)
    simp only [execOp,e0,e2,Option.map_some,Option.map_none,Sem.run_bind,sliceAt_str]
    rw [run_slice_string_h w t _ hu.h k' j h1 (by simpa [ByteArray.size] using h2),extract_list]
    rfl,.sc _⟩)
theorem D_slSl {t : TypeId} {x y : Operand} {k : IntKind} {l : List UInt8} {i : Int} [hu : Und P t .string] (hx : ρ x = some (str l)) (hy : ρ y = some (.sc (.int k i)))
    (h0 : 0 ≤ i) (h1 : i ≤ l.length) : PPOp P { dst:=dst,op:=.slice t x (some y) none none,type:=ty,pos:=pos,after:=af,guard:=gd } ρ (str (l.drop i.toNat)) :=
  PPOp.val (by simp) (fun B G act w hR E=>⟨.string ⟨(l.drop i.toNat).toArray⟩,by
    have e0:=conc_sc (E x (by simp [Op.operands]) _ hx)
    have e1:=conc_sc (E y (by simp [Op.operands]) _ hy)
    simp only [execOp,e0,e1,Option.map_some,Option.map_none,Sem.run_bind,sliceAt_str]
    rw [run_slice_string_l w t _ hu.h k i h0 (by simpa [ByteArray.size] using h1),extract_list]
    simp [ByteArray.size,Result.andThen],.sc _⟩)
end
section
variable {P : Program} [GlobF P]
end
end Go.AL

namespace Go.AL
section
variable {P : Program} [GlobF P] {fr : Option Nat} {N : Nat} {Q : Exit → AS → Prop} {ops : Array Oper} {rest : List Oper} {rg : List (Nat × AV)} {h : List AObj} {mk : Mk} {ty ty' : TypeId} {pos pos' : String} {af af' : Array Edge} {d : Nat}
theorem setRow_push (w : World) (z c : Array Value) (t : TypeId) : (w.alloc (.cells z t)).setRow w.heap.size c = { w with heap:=w.heap.push (.cells c t (0,0)),drawn:=w.drawn + 0 }:=by
  unfold World.setRow World.alloc
  simp only [Nat.add_zero]
  congr 1
  apply Array.ext
  · simp
  · intro i h1 h2
    simp only [Array.getElem_modify]
    by_cases e : w.heap.size = i
    · subst e;simp
    · have : i < w.heap.size:=by simp at h2;omega
      simp [e,Array.getElem_push_lt this]
theorem m_var {t : TypeId} {e k : Nat} {z : Value} {u : AV} {cs : List AV} [hz : Zer P t z] [hs : Siz P t k] (hd : Nat.blt d N = true) (he : Nat.beq d e = false) (hy : lookO rg e = some u) (hu : cellsO u = some cs)
    (hk : Nat.beq cs.length k = true) (hzk : Nat.beq z.cells.size k = true) (hone : cs.all AV.one = true)
    (hw : WL P fr N ops rest Q ⟨(d,.ep cs) :: rg,h,mk⟩) :
    WL P fr N ops ({ dst:=some d,op:=.alloc t,type:=ty,pos:=pos,after:=af,guard:=none } :: { dst:=none,op:=.store t (.tmp d) (.tmp e),type:=ty',pos:=pos',after:=af',guard:=none } :: rest) Q ⟨rg,h,mk⟩:=by
  intro B G a w hR
  have ey : Conc G (a.tmps.getD e undef) u:=by
    have:=hR.regs e
    rwa [show look rg e = u from lookO_eq hy] at this
  have hdN : d < N:=by simpa [Nat.blt_eq] using hd
  refine wpListIn_plain rfl fun K hK=>?_
  refine ⟨fun f _=>fence_fn fr f,?_⟩
  rw [Oper.semAt_eq _ _ _ (by simp)]
  have h1 : (execOp a.eval { dst:=some d,op:=.alloc t,type:=ty,pos:=pos,after:=af,guard:=none }).run P w = .ok (.value (.pointer (some ⟨w.heap.size,0,none⟩))) (w.alloc (.cells z.cells t)):=by
    simp only [execOp,Instr.alloc,Sem.run_bind,Sem.run_pure,hz.h,Result.andThen_ok,run_newVar]
  rw [h1]
  refine hK _ _ ?_
  refine wpListIn_plain rfl fun K2 hK2=>?_
  refine ⟨fun f _=>fence_fn fr f,?_⟩
  rw [Oper.semAt_eq _ _ _ (by simp)]
  have hne : e ≠ d:=fun e'=>by subst e';simp at he
  have v1 : (a.put (some d) (.pointer (some ⟨w.heap.size,0,none⟩))).eval (.tmp d) = .pointer (some ⟨w.heap.size,0,none⟩):=by
    have : d < a.tmps.size:=by rw [hR.size];exact hdN
    simp [Act.eval,Act.put,this]
  have v2 : (a.put (some d) (.pointer (some ⟨w.heap.size,0,none⟩))).eval (.tmp e) = a.tmps.getD e undef:=by
    simp [Act.eval,Act.put,Ne.symm hne]
  generalize hv : a.tmps.getD e undef = v at ey v2
  have hcs:=cellsO_conc ey hu
  have hkl : cs.length = k:=Nat.eq_of_beq_eq_true hk
  have hzl : z.cells.size = k:=Nat.eq_of_beq_eq_true hzk
  have hvl : v.cells.toList.length = k:=by rw [hcs.1,hkl]
  have hone' : ∀ x ∈ v.cells.toList,x.oneCell' = true:=fun x hx=>by
    obtain ⟨i,hi,e⟩:=List.getElem_of_mem hx
    have hi2 : i < cs.length:=by rw [← hcs.1];exact hi
    exact AV.one_ok (hcs.2 i x _ (by rw [List.getElem?_eq_getElem hi,e]) (List.getElem?_eq_getElem hi2)) (List.all_eq_true.1 hone _ (List.getElem_mem hi2))
  have hg3 : (w.alloc (.cells z.cells t)).heap[w.heap.size]? = some (.cells z.cells t (0,0)):=by
    show (w.heap.push _)[w.heap.size]? = _
    simp
  have hrun:=Go.run_storeCells_at (P:=P) w.heap.size 0 t v.cells.toList 0 z.cells (w.alloc (.cells z.cells t)) hg3 (by simp [hzl];rw [← hvl];simp) hone'
  have hlist : z.cells.toList.take (0 + 0) ++ v.cells.toList ++ z.cells.toList.drop (0 + 0 + v.cells.toList.length) = v.cells.toList:=by
    rw [hvl,Nat.zero_add,Nat.zero_add,List.take_zero,List.drop_eq_nil_of_le (by simp [hzl])];simp
  rw [hlist,setRow_push] at hrun
  have h2 : (execOp (a.put (some d) (.pointer (some ⟨w.heap.size,0,none⟩))).eval { dst:=none,op:=.store t (.tmp d) (.tmp e),type:=ty',pos:=pos',after:=af',guard:=none }).run P (w.alloc (.cells z.cells t)) =
      .ok .skip { w with heap:=w.heap.push (.cells v.cells.toList.toArray t (0,0)),drawn:=w.drawn + 0 }:=by
    have hsz : v.cells.size = k:=by rw [← hvl];simp
    simp only [execOp,v1,v2]
    simp [Instr.storeAt,Instr.sureAddr,storeVar,hs.h,hsz,hrun,Result.andThen]
  rw [h2]
  obtain ⟨hle,hr'⟩:=hR.heap.allocImm v.cells.toList t (0,0) 0
  refine hK2 _ _ (hw B _ _ _ ((hR.step hle hr').put hdN ?_))
  exact ep_mk (hcs.mono hle) (fun j u hu=>by simpa using hu)
end
end Go.AL
