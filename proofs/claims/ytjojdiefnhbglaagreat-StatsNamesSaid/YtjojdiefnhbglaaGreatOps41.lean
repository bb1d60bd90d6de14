/- Rules of the abstract logic: a literal whose elements may be written. No condition. -/
import Derived.Test.YtjojdiefnhbglaaGreatOps21
import Derived.Test.YtjojdiefnhbglaaGreatOps5
set_option linter.all false
namespace Go.AL
section
variable {P : Program} [GlobF P] {fr : Option Nat} {N : Nat} {Q : Exit → AS → Prop} {ops : Array Oper} {rest : List Oper} {rg : List (Nat × AV)} {h : List AObj} {mk : Mk} {ty : TypeId} {pos : String} {af : Array Edge} {d : Nat}
theorem S_litG {gd : Option (Nat × Bool)} {ρ : Operand → Option AV} {t e n k by_ : Nat} {ps : List (Nat × Operand)} {els : List (List AV)} {z : Value} (r : Nat) [hu : Und P t (.slice e)] [hs : Siz P e k] [hz : Zer P e z] [hi : Inf P e k by_ z] (hr : h[r]? = some .free)
    (hps : partsO ρ 0 ps = some els) (hn : Nat.beq n ps.length = true) (hk : els.all (fun e=>Nat.beq e.length k) = true) (hm : Nat.ble (n * k) 1000 = true) (hn1 : Nat.ble n 1000 = true) :
    POpS P { dst:=some d,op:=.buildSlice t n ps.toArray,type:=ty,pos:=pos,after:=af,guard:=gd } ρ h [r] (rowA r n) (some (r,.row k e els)):=by
  intro fr B G a w h' hl hsl hR E
  have hr' : h'[r]? = some .free:=(hsl r (.head _)).trans hr
  have hrl : r < h'.length:=(List.getElem?_eq_some_iff.1 hr').1
  obtain ⟨f1,f2⟩:=hR.obj r _ hr'
  refine ⟨fun f _=>fence_fn fr f,?_⟩
  rw [Oper.semAt_eq _ _ _ (by simp)]
  obtain ⟨g1,g2,g3⟩:=partsO_spec hps
  have hn' : n = ps.length:=Nat.eq_of_beq_eq_true hn
  have hk' : ∀ e,e ∈ els → e.length = k:=fun e he=>Nat.eq_of_beq_eq_true (List.all_eq_true.1 hk e he)
  have hm' : n * k ≤ 1000:=by simpa using hm
  have hn1' : n ≤ 1000:=by simpa using hn1
  let vs : List Value:=ps.map (fun p=>a.eval p.2)
  have hvl : vs.length = n:=by simp [vs,hn']
  have hmem : ∀ p,p ∈ ps → p.2 ∈ (Op.buildSlice t n ps.toArray).operands.toList:=fun p hp=>by
    simp only [Op.operands,List.mem_map];exact ⟨p,hp,rfl⟩
  have hcon : ∀ (m : Nat) (v : Value) (e : List AV),vs[m]? = some v → els[m]? = some e → ConcL G v.cells.toList e:=fun m v e hv he=>by
    simp only [vs,List.getElem?_map,Option.map_eq_some_iff] at hv
    obtain ⟨p,hp,rfl⟩:=hv
    obtain ⟨u,h1,h2⟩:=g3 m p e hp he
    exact cellsO_conc (E p.2 (hmem p (List.mem_of_getElem? hp)) u h1) h2
  have hvk : ∀ v,v ∈ vs → v.cells.size = k:=fun v hv=>by
    obtain ⟨m,hm,rfl⟩:=List.getElem_of_mem hv
    have hm2 : m < els.length:=by rw [g2,← hn',← hvl];exact hm
    have:=hcon m _ _ (List.getElem?_eq_getElem hm) (List.getElem?_eq_getElem hm2)
    rw [← hk' _ (List.getElem_mem hm2),← this.1];simp
  let cs0 : Array Value:=(Array.range (n * k)).map ((if n * k = 0 then #[] else z.cells)[· % (if n * k = 0 then #[] else z.cells).size]!)
  have hcs0 : cs0.size = n * k:=by simp [cs0]
  obtain ⟨cs',k1,k2,_,k4⟩:=fill_seq k vs 0 cs0 hvk (by rw [hvl,hcs0];simp)
  have hzip : (List.range' 0 vs.length).zip vs = ps.map (fun p=>(p.1,a.eval p.2)):=by
    rw [show vs.length = ps.length by simp [vs],← g1];exact zip_map_map ps a
  rw [hzip] at k1
  have hel : els.length = n:=by rw [g2,hn']
  have hrun : (execOp a.eval { dst:=some d,op:=.buildSlice t n ps.toArray,type:=ty,pos:=pos,after:=af,guard:=gd }).run P w = .ok (.value (.slice (some ⟨w.heap.size,0,none⟩) n n)) (w.alloc (.cells cs' e)):=by
    simp only [execOp,Instr.buildSlice,Sem.run_bind,run_underlying hu.h,Result.andThen,hs.h]
    rw [if_neg (by omega)]
    have k1' : Instr.fill (fun i=>some (i * k,k)) ((Array.range (n * k)).map ((if n * k = 0 then #[] else z.cells)[· % (if n * k = 0 then #[] else z.cells).size]!)) (ps.map (fun p=>(p.1,a.eval p.2))) = some cs':=k1
    clear k1
    by_cases h0 : n * k = 0
    · simp only [h0,if_true,Sem.run_bind,Sem.run_pure,Result.andThen,List.map_toArray] at k1' ⊢
      rw [k1'];rfl
    · simp only [h0,if_false,Sem.run_bind,Sem.run_pure,Result.andThen,List.map_toArray,hz.h] at k1' ⊢
      rw [k1'];rfl
  rw [hrun]
  let G' : Gh:=⟨G.imm,fun q=>if q = r then some w.heap.size else G.blk q,fun q j=>if q = r ∧ j = n then some (.slice (some ⟨w.heap.size,0,none⟩) n n) else G.tl q j⟩
  have hle : G.le G':=⟨fun _ _ _ e=>e,fun q b' e=>by
      show (if q = r then _ else G.blk q) = some b'
      rw [if_neg fun h=>by subst h;rw [f1] at e;cases e];exact e,fun q j v e=>by
      show (if q = r ∧ j = n then _ else G.tl q j) = some v
      rw [if_neg fun h=>by obtain ⟨rfl,rfl⟩:=h;rw [f2] at e;cases e];exact e⟩
  have himm : ∀ j,G.imm w.heap.size j = none:=fun j=>by
    cases hi : G.imm w.heap.size j with
    | none=>rfl
    | some v=>exact absurd (hR.lt hi) (by omega)
  have hblk : ∀ b',b' < w.heap.size → (w.alloc (.cells cs' e)).heap[b']? = w.heap[b']?:=fun b' hb'=>heap_alloc_old w _ b' hb'
  have hnewb : (w.alloc (.cells cs' e)).heap[w.heap.size]? = some (.cells cs' e (0,0)):=heap_alloc_new w _
  have hset : ∀ (q : Nat) (ob x : AObj),(h'.set r ob)[q]? = some x → (q = r ∧ x = ob) ∨ (q ≠ r ∧ h'[q]? = some x):=fun q ob x hx=>by
    by_cases e : q = r
    · subst e;rw [List.getElem?_set_self hrl] at hx;exact .inl ⟨rfl,(Option.some.inj hx).symm⟩
    · rw [List.getElem?_set_ne (Ne.symm e)] at hx;exact .inr ⟨e,hx⟩
  have e1 : G'.tl r n = some (.slice (some ⟨w.heap.size,0,none⟩) n n):=if_pos ⟨rfl,rfl⟩
  have hcc : ConcL G' cs'.toList els.flatten:=by
    refine ⟨by rw [flat_len hk',Array.length_toList,k2,hcs0,hel],fun q v x hv hx=>?_⟩
    have hq : q < n * k:=by rw [← hcs0,← k2];exact (Array.getElem?_eq_some_iff.1 (by simpa using hv)).1
    have hk0 : 0 < k:=by
      rcases Nat.eq_zero_or_pos k with h|h
      · subst h;omega
      · exact h
    have d1 : q / k < n:=(Nat.div_lt_iff_lt_mul hk0).2 hq
    have d2 : q % k < k:=Nat.mod_lt _ hk0
    have d3 : q / k * k + q % k = q:=by have:=Nat.div_add_mod q k;rw [Nat.mul_comm] at this;exact this
    rw [← d3,flat_get hk' _ _ d2] at hx
    cases he : els[q / k]? with
    | none=>rw [he] at hx;cases hx
    | some e =>
      rw [he] at hx
      have hiv : q / k < vs.length:=by rw [hvl];exact d1
      have h5:=k4 (q / k) vs[q / k] (q % k) (List.getElem?_eq_getElem hiv) d2
      rw [Nat.zero_add,d3,← Array.getElem?_toList,hv] at h5
      exact ((hcon (q / k) _ e (List.getElem?_eq_getElem hiv) he).2 (q % k) v x (by rw [Array.getElem?_toList,← h5]) hx).mono hle
  have hel2 : els.length = n:=hel
  have ec : G'.blk r = some w.heap.size:=if_pos rfl
  have hnb : ∀ q,q ≠ r → G'.blk q = G.blk q:=fun q hq=>if_neg hq
  refine ⟨_,G',rfl,hle,?_,rowA_mk e1 (Nat.le_refl _)⟩
  refine hR.turn (hR.base.trans hle) rfl rfl rfl (Nat.le_refl _) (by simp) (fun b' hb'=>hblk b' (Nat.lt_of_lt_of_le hb' hR.size)) (fun b' o' hb'=>rfl) (fun b' o' v hv=>?_) (fun q x hx=>?_) (fun q x b' hx hb'=>?_) (fun q q' x x' b' hx hx' hb1 hb2 hlt=>?_) (fun q hq=>?_)
  · have e1 : (w.alloc (.cells cs' e)).cell? ⟨b',o',none⟩ = w.cell? ⟨b',o',none⟩:=by
      simp only [World.cell?];rw [hblk b' (hR.lt hv)]
    exact e1.trans (hR.imm _ _ _ hv)
  · rcases hset q _ x hx with ⟨rfl,rfl⟩ | ⟨hne,hx⟩
    · refine ⟨fun j hj=>?_,hk',.inr ⟨w.heap.size,n,cs'.toList,by rw [hel2];exact e1,hR.size,by rw [Array.toArray_toList];exact hnewb,by omega,by simp only [maxLen];omega,by rw [Array.length_toList,k2,hcs0],?_,himm,ec⟩⟩
      · show (if q = q ∧ j = n then _ else G.tl q j) = none
        rw [if_neg fun h=>by omega];exact f2 j
      · rw [hel2,List.take_of_length_le (by rw [Array.length_toList,k2,hcs0];exact Nat.le_refl _)];exact hcc
    · exact (hR.obj q x hx).keep hle (hnb q hne) (fun j=>if_neg fun h=>hne h.1) fun b' hb' hlt=>⟨hblk b' hlt,fun j hj=>hj⟩
  · rcases hset q _ x hx with ⟨rfl,rfl⟩ | ⟨hne,hx⟩
    · simp only [ownBlk,hel2] at hb'
      rw [e1] at hb';simp only [slBlock,Option.some.injEq] at hb';subst hb'
      exact .inl (Nat.le_refl _)
    · rw [ownBlk.congr (G:=G) (G':=G') (hnb q hne) (fun j=>if_neg fun h=>hne h.1)] at hb';exact .inr ⟨x,hx,hb'⟩
  · have key : ∀ q x,(h'.set r (.row k e els))[q]? = some x → ownBlk G' q x = some b' → q = r:=fun q x hx hb=>by
      rcases hset q _ x hx with ⟨rfl,rfl⟩ | ⟨hne,hx⟩
      · rfl
      · rw [ownBlk.congr (G:=G) (G':=G') (hnb q hne) (fun j=>if_neg fun h=>hne h.1)] at hb
        exact absurd ((hR.obj q x hx).own hb).1 (by omega)
    rw [key q x hx hb1,key q' x' hx' hb2]
  · have hq' : h'.length ≤ q:=by simpa [appU] using hq
    obtain ⟨k1,k2⟩:=hR.fresh q hq'
    exact ⟨(hnb q (by omega)).trans k1,fun j=>by show (if q = r ∧ _ then _ else _) = none;rw [if_neg fun h=>by omega];exact k2 j⟩
theorem m_litG {t e n k by_ : Nat} {ps : List (Nat × Operand)} {els : List (List AV)} {z : Value} [hu : Und P t (.slice e)] [hs : Siz P e k] [hz : Zer P e z] [hi : Inf P e k by_ z]
    (hps : partsO (evR rg) 0 ps = some els) (hn : Nat.beq n ps.length = true) (hk : els.all (fun e=>Nat.beq e.length k) = true) (hm : Nat.ble (n * k) 1000 = true) (hn1 : Nat.ble n 1000 = true) (hd : Nat.blt d N = true)
    (hw : WL P fr N ops rest Q ⟨(d,rowA h.length n) :: rg,h ++ [.row k e els],mk⟩) :
    WL P fr N ops ({ dst:=some d,op:=.buildSlice t n ps.toArray,type:=ty,pos:=pos,after:=af,guard:=none } :: rest) Q ⟨rg,h,mk⟩:=by
  refine WL_resv 1 (pV (S_litG h.length ?_ hps hn hk hm hn1) hd ?_)
  · simp [resv]
  · have : (resv 1 h).set h.length (.row k e els) = h ++ [.row k e els]:=by simp [resv]
    rw [this];exact hw
end
end Go.AL
