/- The rules of the abstract logic, tenth part: appending to a tail of one's own. No condition. -/
import Derived.Test.YtnjnjbombcefcaaDoorApp
import Derived.Deep.DeepAppendWide
set_option linter.all false
namespace Go.AL
theorem flat_get {α : Type} {k : Nat} : ∀ {els : List (List α)} (_ : ∀ e,e ∈ els → e.length = k) (i j : Nat),j < k → els.flatten[i * k + j]? = (els[i]?).bind fun e=>e[j]?
  | [],_,i,j,_=>by simp
  | e :: els,hk,i,j,hj=>by
    have he:=hk e (.head _)
    cases i with
    | zero=>simp only [Nat.zero_mul,Nat.zero_add,List.flatten_cons];rw [List.getElem?_append_left (by omega)];rfl
    | succ i =>
      rw [List.flatten_cons,List.getElem?_append_right (by rw [Nat.succ_mul];omega),List.getElem?_cons_succ]
      rw [← flat_get (fun e h=>hk e (.tail _ h)) i j hj]
      congr 1
      rw [Nat.succ_mul];omega
theorem flat_len {α : Type} {k : Nat} : ∀ {els : List (List α)} (_ : ∀ e,e ∈ els → e.length = k),els.flatten.length = els.length * k
  | [],_=>by simp
  | e :: els,hk=>by
    rw [List.flatten_cons,List.length_append,flat_len fun e h=>hk e (.tail _ h),hk e (.head _),List.length_cons,Nat.succ_mul,Nat.add_comm]
theorem sl_flat {G : Gh} {b o k : Nat} {els : List (List AV)} (us : Nat → Nat → Value) (hk : ∀ e,e ∈ els → e.length = k)
    (him : ∀ i j,i < els.length → j < k → G.imm b (o + i * k + j) = some (us i j)) (hc : ∀ (i : Nat) (e : List AV) (j : Nat) (x : AV),els[i]? = some e → e[j]? = some x → Conc G (us i j) x) :
    ∃ vs : List Value,vs.length = els.length * k ∧ ConcL G vs els.flatten ∧ ∀ j u,vs[j]? = some u → G.imm b (o + j) = some u:=by
  rcases Nat.eq_zero_or_pos k with hk0|hk0
  · subst hk0
    have : els.flatten = []:=List.length_eq_zero_iff.1 (by rw [flat_len hk];omega)
    exact ⟨[],by simp,by rw [this];exact .nil _,fun j u h=>by simp at h⟩
  have dm : ∀ q,q < els.length * k → q / k < els.length ∧ q % k < k ∧ q / k * k + q % k = q:=fun q hq =>
    ⟨(Nat.div_lt_iff_lt_mul hk0).2 hq,Nat.mod_lt _ hk0,by have:=Nat.div_add_mod q k;rw [Nat.mul_comm] at this;exact this⟩
  refine ⟨(List.range (els.length * k)).map fun q=>us (q / k) (q % k),by simp,⟨by simp [flat_len hk],fun q v x hv hx=>?_⟩,fun q u hu=>?_⟩
  · have hq : q < els.length * k:=by rw [← flat_len hk];exact (List.getElem?_eq_some_iff.1 hx).1
    obtain ⟨d1,d2,d3⟩:=dm q hq
    simp [hq] at hv
    subst hv
    rw [← d3,flat_get hk _ _ d2] at hx
    cases he : els[q / k]? with
    | none=>rw [he] at hx;cases hx
    | some e=>rw [he] at hx;exact hc _ e _ x he hx
  · have hq : q < els.length * k:=by
      have:=(List.getElem?_eq_some_iff.1 hu).1;simpa using this
    obtain ⟨d1,d2,d3⟩:=dm q hq
    simp [hq] at hu
    subst hu
    have:=him (q / k) (q % k) d1 d2
    rwa [Nat.add_assoc,d3] at this
theorem sl_of_flat {G : Gh} {b o cap k : Nat} {els : List (List AV)} {vs : List Value} {tok : Option Nat} (hk : ∀ e,e ∈ els → e.length = k) (hcap : els.length ≤ cap) (hc : ConcL G vs els.flatten)
    (hi : ∀ j u,vs[j]? = some u → G.imm b (o + j) = some u) (ht : ∀ t,tok = some t → G.tl t els.length = some (.slice (some ⟨b,o,none⟩) els.length cap)) : Conc G (.slice (some ⟨b,o,none⟩) els.length cap) (.sl tok k els):=by
  have hl : vs.length = els.length * k:=by rw [hc.1,flat_len hk]
  refine .sl (fun i j=>(vs[i * k + j]?).getD undef) hk hcap (fun i j h1 h2=>?_) (fun i e j x he hx=>?_) ht
  · have h3 : i * k + j < vs.length:=by
      have : (i + 1) * k ≤ els.length * k:=Nat.mul_le_mul_right k h1
      rw [Nat.succ_mul] at this;omega
    rw [List.getElem?_eq_getElem h3]
    have:=hi _ _ (List.getElem?_eq_getElem h3)
    simpa [Nat.add_assoc] using this
  · have h1 : i < els.length:=(List.getElem?_eq_some_iff.1 he).1
    have h2 : j < k:=by rw [← hk e (List.mem_of_getElem? he)];exact (List.getElem?_eq_some_iff.1 hx).1
    have h3 : i * k + j < vs.length:=by
      have : (i + 1) * k ≤ els.length * k:=Nat.mul_le_mul_right k h1
      rw [Nat.succ_mul] at this;omega
    rw [List.getElem?_eq_getElem h3]
    refine hc.2 (i * k + j) _ x (List.getElem?_eq_getElem h3) ?_
    rw [flat_get hk i j h2,he];exact hx
class OneL (xs : List AV) : Prop where
  h : ∀ x,x ∈ xs → x.one = true
class OneLL (els : List (List AV)) : Prop where
  h : ∀ e,e ∈ els → OneL e
class One (x : AV) : Prop where
  h : x.one = true
instance (b : Bool) : One (.sc (.bool b)):=⟨rfl⟩
instance (k : IntKind) (n : Int) : One (.sc (.int k n)):=⟨rfl⟩
instance (s : ByteArray) : One (.sc (.string s)):=⟨rfl⟩
instance (a : Option Addr) (n c : Nat) : One (.sc (.slice a n c)):=⟨rfl⟩
instance (a : Option Addr) : One (.sc (.pointer a)):=⟨rfl⟩
instance (tok : Option Nat) (k : Nat) (els : List (List AV)) : One (.sl tok k els):=⟨rfl⟩
instance (cs : List AV) : One (.ep cs):=⟨rfl⟩
instance (r o : Nat) : One (.bp r o):=⟨rfl⟩
instance (r o n : Nat) : One (.mr r o n):=⟨rfl⟩
instance (r n c : Nat) : One (.mc r n c):=⟨rfl⟩
instance (f : Fn) (xs ys : List AV) : One (.fn f xs ys):=⟨rfl⟩
instance : OneL []:=⟨fun _ h=>by cases h⟩
instance (x : AV) (xs : List AV) [hx : One x] [hs : OneL xs] : OneL (x :: xs):=⟨fun y h=>by
  cases h with
  | head=>exact hx.h
  | tail _ h=>exact hs.h y h⟩
instance : OneLL []:=⟨fun _ h=>by cases h⟩
instance (x : List AV) (xs : List (List AV)) [hx : OneL x] [hs : OneLL xs] : OneLL (x :: xs):=⟨fun y h=>by
  cases h with
  | head=>exact hx
  | tail _ h=>exact hs.h y h⟩
instance {α : Type} (l : List α) (f : α → List AV) [hs : ∀ a,OneL (f a)] : OneLL (l.map f):=⟨fun e he=>by
  obtain ⟨a,_,rfl⟩:=List.mem_map.1 he;exact hs a⟩
instance (xs ys : List (List AV)) [hx : OneLL xs] [hy : OneLL ys] : OneLL (xs ++ ys):=⟨fun e he=>by
  rcases List.mem_append.1 he with h|h
  · exact hx.h e h
  · exact hy.h e h⟩
instance (xs : List (List AV)) (n : Nat) [hx : OneLL xs] : OneLL (xs.take n):=⟨fun e he=>hx.h e (List.mem_of_mem_take he)⟩
instance (xs : List (List AV)) (n : Nat) [hx : OneLL xs] : OneLL (xs.drop n):=⟨fun e he=>hx.h e (List.mem_of_mem_drop he)⟩
instance (xs : List (List AV)) (n : Nat) [hx : PurLL xs] : PurLL (xs.take n):=⟨fun e he=>hx.h e (List.mem_of_mem_take he)⟩
instance (xs : List (List AV)) (n : Nat) [hx : PurLL xs] : PurLL (xs.drop n):=⟨fun e he=>hx.h e (List.mem_of_mem_drop he)⟩
theorem OneLL.flat {els : List (List AV)} [h : OneLL els] {G : Gh} {vs : List Value} (hc : ConcL G vs els.flatten) : ∀ u,u ∈ vs → u.oneCell' = true:=fun u hu=>by
  obtain ⟨i,hi,rfl⟩:=List.getElem_of_mem hu
  have hi2 : i < els.flatten.length:=by rw [← hc.1];exact hi
  have hm:=List.getElem_mem hi2
  obtain ⟨e,he,hx⟩:=List.mem_flatten.1 hm
  exact AV.one_ok (hc.2 i _ _ (List.getElem?_eq_getElem hi) (List.getElem?_eq_getElem hi2)) ((h.h e he).h _ hx)
section
variable {P : Program} [GlobF P] {ty : TypeId} {pos : String} {af : Array Edge} {d : Nat} {gd : Option (Nat × Bool)} {ρ : Operand → Option AV} {h : List AObj}
theorem exec_append {P0 : Program} (a : Act) {x y : Operand} {ts : Array TypeId} {dst : Option Nat} {w w' : World} {v : Value} (h : (Builtin.append_ ts ty #[a.eval x,a.eval y]).run P0 w = .ok v w') :
    (execOp a.eval { dst:=dst,op:=.call { callee:=.builtin .append,args:=#[x,y],argTypes:=ts },type:=ty,pos:=pos,after:=af,guard:=gd }).run P0 w = .ok (.value v) w':=by
  rw [exec_builtin]
  simp only [builtin,List.map_toArray,List.map_cons,List.map_nil,Sem.run_bind,h];rfl
theorem run_append_none {P0 : Program} {t e : TypeId} {i : TypeInfo} (ht : P0.underlying t = some (.slice e)) (hi : P0.info? e = some i) (base : Option Addr) (n cap : Nat) (hn : n ≤ cap) (y : Value) (hy : (∃ a c,y = .slice (some a) 0 c) ∨ y = .slice none 0 0) (w : World) :
    (Builtin.append_ #[t,t] ty #[.slice base n cap,y]).run P0 w = .ok (.slice base n cap) w:=by
  rcases hy with ⟨a,c,rfl⟩|rfl
  · cases base <;> simp [Builtin.append_,run_underlying ht,sizeOf,typeInfo,hi,Builtin.lenOf,Builtin.firstCells,hn,storeCells,loadCells,loadCellsFrom]
  · cases base <;> simp [Builtin.append_,run_underlying ht,sizeOf,typeInfo,hi,Builtin.lenOf,Builtin.firstCells,hn,storeCells]
def GB (n b : Nat) : Prop:=n * b ≤ 140737488355328 ∨ (n + n / 4 + 192) * b ≤ 281474976710656
theorem GB.le {n b : Nat} (h : GB n b) : n * b ≤ 281474976710656:=by
  rcases h with h|h
  · omega
  · exact Nat.le_trans (Nat.mul_le_mul_right _ (by omega)) h
theorem GB.fits {need old b : Nat} (h : old < need) (hb : GB need b) : Builtin.nextslicecap need old * b ≤ 281474976710656:=by
  rcases hb with hb|hb
  · exact growslice_fits h hb
  · exact growslice_fits_wide h hb
theorem S_appB {t e tk k n by_ : Nat} {x y : Operand} {els els' : List (List AV)} {tok' : Option Nat} {z : Value} [hu : Und P t (.slice e)] [hi : Inf P e k by_ z] [hone : OneLL els'] (hx : ρ x = some (.sl (some tk) k els)) (hy : ρ y = some (.sl tok' k els'))
    (ht : h[tk]? = some (.tail n k e)) (hn : n = els.length) (hk : Nat.blt 0 k = true) (hzk : Nat.beq z.cells.size k = true) (hb : GB (els.length + els'.length) by_) (h63 : els.length + els'.length < 4611686018427387904) :
    POpS P { dst:=some d,op:=.call { callee:=.builtin .append,args:=#[x,y],argTypes:=#[t,t] },type:=ty,pos:=pos,after:=af,guard:=gd } ρ h [tk] (.sl (some tk) k (els ++ els')) (some (tk,.tail (els.length + els'.length) k e)):=by
  intro fr B G a w h' hl hsl hR E
  have hk0 : 0 < k:=by simpa [Nat.blt_eq] using hk
  have hzk' : z.cells.size = k:=Nat.eq_of_beq_eq_true hzk
  obtain ⟨i,i1,i2,i3,i4⟩:=hi.h
  have ex:=E x (by simp [Op.operands,Call.operands]) _ hx
  have ey:=E y (by simp [Op.operands,Call.operands]) _ hy
  have ht' : h'[tk]? = some (.tail n k e):=(hsl tk (.head _)).trans ht
  have htl : tk < h'.length:=(List.getElem?_eq_some_iff.1 ht').1
  obtain ⟨o0,o1⟩:=hR.obj tk _ ht'
  refine ⟨fun f _=>fence_fn fr f,?_⟩
  rw [Oper.semAt_eq _ _ _ (by simp)]
  have hold : ∃ base cap,a.eval x = .slice base els.length cap ∧ els.length ≤ cap ∧ G.tl tk els.length = some (.slice base els.length cap) ∧ (∀ e,e ∈ els → e.length = k) ∧
      ((base = none ∧ els = []) ∨ ∃ b o vs,base = some ⟨b,o,none⟩ ∧ vs.length = els.length * k ∧ ConcL G vs els.flatten ∧ ∀ j u,vs[j]? = some u → G.imm b (o + j) = some u):=by
    generalize a.eval x = v at ex
    cases ex with
    | @sl b o cap _ _ _ us hk hcap him hc ht =>
      obtain ⟨vs,g1,g2,g3⟩:=sl_flat us hk him hc
      exact ⟨_,cap,rfl,hcap,ht tk rfl,hk,.inr ⟨b,o,vs,rfl,g1,g2,g3⟩⟩
    | slnil ht =>
      refine ⟨none,0,rfl,Nat.le_refl _,ht tk rfl,?_,.inl ⟨rfl,rfl⟩⟩
      intro e he;cases he
  obtain ⟨base,cap,vx,hcap,htok,hkx,hbase⟩:=hold
  have hnew : (els' = [] ∧ ((∃ a' c,a.eval y = .slice (some a') 0 c) ∨ a.eval y = .slice none 0 0)) ∨ (∃ b o c news,a.eval y = .slice (some ⟨b,o,none⟩) els'.length c ∧ (∀ e,e ∈ els' → e.length = k) ∧ news.length = els'.length * k ∧ ConcL G news els'.flatten ∧ ∀ j u,news[j]? = some u → G.imm b (o + j) = some u):=by
    generalize a.eval y = v at ey
    cases ey with
    | @sl b o cap _ _ _ us hk hcap him hc ht =>
      obtain ⟨vs,g1,g2,g3⟩:=sl_flat us hk him hc
      exact .inr ⟨b,o,cap,vs,rfl,hk,g1,g2,g3⟩
    | slnil ht=>exact .inl ⟨rfl,.inr rfl⟩
    | @slz a0 _=>exact .inl ⟨rfl,.inl ⟨a0,0,rfl⟩⟩
  by_cases hm : els' = []
  · -- nothing
    have hy0 : (∃ a' c,a.eval y = .slice (some a') 0 c) ∨ a.eval y = .slice none 0 0:=by
      rcases hnew with ⟨_,h⟩ | ⟨b,o,c,news,h,_⟩
      · exact h
      · rw [hm] at h;exact .inl ⟨_,c,h⟩
    rw [exec_append a (by rw [vx];exact run_append_none hu.h i1 base _ cap hcap _ hy0 w)]
    refine ⟨_,G,rfl,.refl G,?_,?_⟩
    · have : appU (some (tk,.tail (els.length + els'.length) k e)) h' = h':=by
        simp only [appU,hm,List.length_nil,Nat.add_zero,← hn]
        exact heap_ext (by simp) fun r hr=>by
          by_cases e : tk = r
          · subst e;rw [List.getElem?_set_self htl,ht']
          · rw [List.getElem?_set_ne e]
      rw [this];exact hR
    · rw [hm,List.append_nil,← vx];exact ex
  have hnew' : ∃ b o c news,a.eval y = .slice (some ⟨b,o,none⟩) els'.length c ∧ (∀ e,e ∈ els' → e.length = k) ∧ news.length = els'.length * k ∧ ConcL G news els'.flatten ∧ ∀ j u,news[j]? = some u → G.imm b (o + j) = some u:=by
    rcases hnew with ⟨h,_⟩|h
    · exact absurd h hm
    · exact h
  obtain ⟨b,o,c,news,vy,hky,hnl,hnc,hni⟩:=hnew'
  have hmp : 0 < els'.length:=List.length_pos_iff.2 hm
  have hone':=OneLL.flat hnc
  have hnw : ∀ j u,news[j]? = some u → w.cell? ((⟨b,o,none⟩ : Addr).add j) = some u:=fun j u hu=>by rw [add_none];exact hR.imm _ _ _ (hni j u hu)
  have hkk : ∀ e,e ∈ els ++ els' → e.length = k:=fun e he=>by
    rcases List.mem_append.1 he with h|h
    · exact hkx e h
    · exact hky e h
  have htl0 : G.tl tk (els.length + els'.length) = none:=o0 _ (by omega)
  have hleT : ∀ (imm' : Nat → Nat → Option Value) (v' : Value),(∀ b o v,G.imm b o = some v → imm' b o = some v) → G.le ⟨imm',G.blk,fun r j=>if r = tk ∧ j = els.length + els'.length then some v' else G.tl r j⟩:=fun imm' v' him =>
    ⟨him,fun _ _ e=>e,fun r j v e=>by
      show (if r = tk ∧ j = els.length + els'.length then some v' else G.tl r j) = some v
      rw [if_neg fun ⟨h1,h2⟩=>by subst h1;subst h2;rw [htl0] at e;cases e];exact e⟩
  have hset : ∀ (q : Nat) (ob x : AObj),(h'.set tk ob)[q]? = some x → (q = tk ∧ x = ob) ∨ (q ≠ tk ∧ h'[q]? = some x):=fun q ob x hx=>by
    by_cases e : q = tk
    · subst e;rw [List.getElem?_set_self htl] at hx;exact .inl ⟨rfl,(Option.some.inj hx).symm⟩
    · rw [List.getElem?_set_ne (Ne.symm e)] at hx;exact .inr ⟨e,hx⟩
  by_cases hroom : els.length + els'.length ≤ cap
  · -- in place
    rcases o1 with ⟨hn0,htl1⟩ | ⟨g,cap1,cur,q1,q2,q3,q4,q5,q6,q7⟩
    · rw [hn] at hn0
      have : els = []:=List.length_eq_zero_iff.1 hn0
      subst this
      simp only [List.length_nil] at htok
      rw [htl1] at htok;cases htok
      simp only [List.length_nil] at hroom;omega
    rw [hn,htok] at q1
    simp only [Option.some.injEq,Value.slice.injEq,true_and] at q1
    obtain ⟨rfl,rfl⟩:=q1
    obtain ⟨b0,o0',vs,hb0,hvl,hvc,hvi⟩ : ∃ b o vs,(some (⟨g,0,none⟩ : Addr)) = some ⟨b,o,none⟩ ∧ vs.length = els.length * k ∧ ConcL G vs els.flatten ∧ ∀ j u,vs[j]? = some u → G.imm b (o + j) = some u:=by
      rcases hbase with ⟨h,_⟩|h
      · cases h
      · exact h
    simp only [Option.some.injEq,Addr.mk.injEq,and_true] at hb0
    obtain ⟨rfl,rfl⟩:=hb0
    rw [hn] at q7
    have hfit : els.length * i.size + news.length ≤ cur.size:=by rw [i2,hnl,q6,← Nat.add_mul];exact Nat.mul_le_mul_right _ hroom
    have hrun:=run_append_room (P:=P) w t ty e i hu.h i1 g els.length cap cur q3 ⟨b,o,none⟩ els'.length c news (by rw [i2];exact hnl) hnw hone' hroom hfit
    rw [i2] at hrun hfit
    rw [exec_append a (by rw [vx,vy];exact hrun)]
    let G' : Gh:=⟨fun b' o'=>if b' = g ∧ els.length * k ≤ o' ∧ o' < els.length * k + news.length then news[o' - els.length * k]? else G.imm b' o',G.blk,fun r j=>if r = tk ∧ j = els.length + els'.length then some (.slice (some ⟨g,0,none⟩) (els.length + els'.length) cap) else G.tl r j⟩
    have hle : G.le G':=hleT _ _ fun b' o' v e=>by
      show (if b' = g ∧ els.length * k ≤ o' ∧ o' < els.length * k + news.length then news[o' - els.length * k]? else G.imm b' o') = some v
      rw [if_neg fun ⟨h1,h2,_⟩=>by subst h1;rw [q7 _ h2] at e;cases e];exact e
    have hblk : ∀ b',b' ≠ g → (w.setRow g (cur.toList.take (els.length * k) ++ news ++ cur.toList.drop (els.length * k + news.length)).toArray).heap[b']? = w.heap[b']?:=fun b' hb'=>setRow_other _ _ _ _ hb'
    have hrow:=setRow_heap w g cur (cur.toList.take (els.length * k) ++ news ++ cur.toList.drop (els.length * k + news.length)).toArray e (0,0) q3
    refine ⟨_,G',rfl,hle,?_,?_⟩
    · refine hR.turn (hR.base.trans hle) rfl rfl rfl (Nat.le_refl _) (by simp) (fun b' hb'=>hblk b' (by omega)) (fun b' o' hb'=>if_neg fun h=>by omega) (fun b' o' v hv=>?_) (fun q x hx=>?_) (fun q x b' hx hb'=>?_) (fun q q' x x' b' hx hx' hb1 hb2 hlt=>?_) (fun q hq=>?_)
      · by_cases hbg : b' = g
        · subst hbg
          simp only [World.cell?,hrow]
          have hcl : (cur.toList.take (els.length * k)).length = els.length * k:=by simp;omega
          by_cases hin : els.length * k ≤ o' ∧ o' < els.length * k + news.length
          · have hv' : (if b' = b' ∧ els.length * k ≤ o' ∧ o' < els.length * k + news.length then news[o' - els.length * k]? else G.imm b' o') = some v:=hv
            rw [if_pos ⟨rfl,hin⟩] at hv'
            simp only [List.getElem?_toArray,List.append_assoc]
            rw [if_neg (by simp),List.getElem?_append_right (by omega),hcl,List.getElem?_append_left (by omega)];exact hv'
          · have hv' : (if b' = b' ∧ els.length * k ≤ o' ∧ o' < els.length * k + news.length then news[o' - els.length * k]? else G.imm b' o') = some v:=hv
            rw [if_neg fun h=>hin h.2] at hv'
            have ho : o' < els.length * k:=by
              rcases Nat.lt_or_ge o' (els.length * k) with h|h
              · exact h
              · rw [q7 _ h] at hv';cases hv'
            have hcell:=hR.imm _ _ _ hv'
            simp only [World.cell?,q3] at hcell
            simp only [List.getElem?_toArray,List.append_assoc]
            rw [if_neg (by simp),List.getElem?_append_left (by omega),List.getElem?_take,if_pos ho]
            rw [if_neg (by simp)] at hcell
            simpa using hcell
        · have hv' : (if b' = g ∧ els.length * k ≤ o' ∧ o' < els.length * k + news.length then news[o' - els.length * k]? else G.imm b' o') = some v:=hv
          rw [if_neg fun h=>hbg h.1] at hv'
          have:=hR.imm _ _ _ hv'
          simp only [World.cell?,hblk b' hbg] at this ⊢
          exact this
      · rcases hset q _ x hx with ⟨rfl,rfl⟩ | ⟨hne,hx⟩
        · refine ⟨fun j hj=>?_,.inr ⟨g,cap,(cur.toList.take (els.length * k) ++ news ++ cur.toList.drop (els.length * k + news.length)).toArray,if_pos ⟨rfl,rfl⟩,q2,hrow,hroom,q5,?_,fun j hj=>?_⟩⟩
          · show (if q = q ∧ j = els.length + els'.length then _ else G.tl q j) = none
            rw [if_neg fun h=>by omega];exact o0 j (by omega)
          · simp only [List.size_toArray,List.length_append,List.length_take,List.length_drop,Array.length_toList];omega
          · show (if g = g ∧ els.length * k ≤ j ∧ j < els.length * k + news.length then news[j - els.length * k]? else G.imm g j) = none
            rw [Nat.add_mul] at hj
            rw [if_neg fun h=>by omega];exact q7 j (by omega)
        · refine (hR.obj q x hx).keep hle rfl (fun j=>if_neg fun h=>hne h.1) fun b' hb' _=>?_
          have hne' : b' ≠ g:=fun hbg=>hne (hR.inj q tk x _ b' hx ht' hb' (by simp only [ownBlk,hn,htok,slBlock];rw [hbg]))
          exact ⟨hblk b' hne',fun j hj=>by show (if b' = g ∧ _ then _ else _) = none;rw [if_neg fun h=>hne' h.1];exact hj⟩
      · rcases hset q _ x hx with ⟨rfl,rfl⟩ | ⟨hne,hx⟩
        · simp only [ownBlk] at hb'
          have e1 : G'.tl q (els.length + els'.length) = some (.slice (some ⟨g,0,none⟩) (els.length + els'.length) cap):=if_pos ⟨rfl,rfl⟩
          rw [e1] at hb';simp only [slBlock,Option.some.injEq] at hb';subst hb'
          exact .inr ⟨_,ht',by simp only [ownBlk,hn,htok,slBlock]⟩
        · rw [ownBlk.congr (G:=G) (G':=G') rfl (fun j=>if_neg fun h=>hne h.1)] at hb';exact .inr ⟨x,hx,hb'⟩
      · exfalso
        rcases hset q _ x hx with ⟨rfl,rfl⟩ | ⟨hne,hx⟩
        · simp only [ownBlk] at hb1
          have e1 : G'.tl q (els.length + els'.length) = some (.slice (some ⟨g,0,none⟩) (els.length + els'.length) cap):=if_pos ⟨rfl,rfl⟩
          rw [e1] at hb1;simp only [slBlock,Option.some.injEq] at hb1;subst hb1
          have:=(Array.getElem?_eq_some_iff.1 q3).1;omega
        · rw [ownBlk.congr (G:=G) (G':=G') rfl (fun j=>if_neg fun h=>hne h.1)] at hb1
          exact absurd ((hR.obj q x hx).own hb1).1 (by omega)
      · have hq' : h'.length ≤ q:=by simpa [appU] using hq
        obtain ⟨k1,k2⟩:=hR.fresh q hq'
        exact ⟨k1,fun j=>by show (if q = tk ∧ _ then _ else _) = none;rw [if_neg fun h=>by omega];exact k2 j⟩
    · have:=sl_of_flat (G:=G') (b:=g) (o:=0) (cap:=cap) (k:=k) (els:=els ++ els') (vs:=vs ++ news) (tok:=some tk) hkk (by simpa using hroom) (by rw [List.flatten_append];exact (hvc.mono hle).append (hnc.mono hle))
        (fun j u hu=>by
          rcases Nat.lt_or_ge j vs.length with hj|hj
          · rw [List.getElem?_append_left hj] at hu;exact hle.imm _ _ _ (hvi j u hu)
          · rw [List.getElem?_append_right hj] at hu
            have hjl:=(List.getElem?_eq_some_iff.1 hu).1
            show (if g = g ∧ els.length * k ≤ 0 + j ∧ 0 + j < els.length * k + news.length then news[0 + j - els.length * k]? else G.imm g (0 + j)) = some u
            rw [if_pos ⟨rfl,by omega,by omega⟩,← hu];congr 1;omega) (fun t e=>by cases e;simp only [List.length_append];exact if_pos ⟨rfl,rfl⟩)
      simpa using this
  · -- in a new block
    have hrun : ∃ vs : List Value,∃ ocap,vs.length = els.length * k ∧ ConcL G vs els.flatten ∧ (Builtin.append_ #[t,t] ty #[a.eval x,a.eval y]).run P w = .ok (.slice (some ⟨w.heap.size,0,none⟩) (els.length + els'.length) (grownCap w (els.length + els'.length) ocap e))
        (w.drew.alloc (.cells (vs.toArray ++ news.toArray ++ Builtin.zeroCells z.cells (grownCap w (els.length + els'.length) ocap e - (els.length + els'.length))) e)):=by
      rcases hbase with ⟨rfl,rfl⟩ | ⟨b0,o0',vs,rfl,hvl,hvc,hvi⟩
      · rcases o1 with ⟨hn0,htl1⟩ | ⟨g,cap1,cur,q1,_⟩
        · simp only [List.length_nil] at htok
          rw [htl1] at htok;cases htok
          have hr:=run_append_nil (P:=P) w t ty e i z hu.h i1 i4 ⟨b,o,none⟩ els'.length c news (by rw [i2];exact hnl) hnw hmp (by simp only [List.length_nil,Nat.zero_add] at h63;omega) (by simp only [List.length_nil,Nat.zero_add] at hb;rw [i3];exact hb.le)
          refine ⟨[],0,by simp,.nil _,?_⟩
          rw [vx,vy];simpa using hr
        · rw [hn,htok] at q1;cases q1
      · have hr:=run_append_grow (P:=P) w t ty e i z hu.h i1 i4 ⟨b0,o0',none⟩ els.length cap vs (by rw [i2];exact hvl) (fun j u hu=>by rw [add_none];exact hR.imm _ _ _ (hvi j u hu)) ⟨b,o,none⟩ els'.length c news (by rw [i2];exact hnl) hnw (by omega) (by omega) (GB.fits (by omega) (by rw [i3];exact hb))
        exact ⟨vs,cap,hvl,hvc,by rw [vx,vy];exact hr⟩
    obtain ⟨vs,ocap,hvl,hvc,hrun⟩:=hrun
    have hge:=grownCap_ge w (els.length + els'.length) ocap e
    have hcm:=grownCap_le_maxLen w (els.length + els'.length) ocap e (by simp only [maxLen];omega)
    generalize hcapd : grownCap w (els.length + els'.length) ocap e = cap' at hrun hge hcm
    rw [exec_append a hrun]
    have hall : (vs ++ news).length = (els.length + els'.length) * k:=by rw [List.length_append,hvl,hnl,Nat.add_mul]
    let blkc : Array Value:=vs.toArray ++ news.toArray ++ Builtin.zeroCells z.cells (cap' - (els.length + els'.length))
    have hsz : blkc.size = cap' * k:=by
      simp only [blkc,Array.size_append,List.size_toArray,size_zeroCells,hzk',hvl,hnl,← Nat.add_mul]
      congr 1;omega
    let G' : Gh:=⟨fun b' o'=>if b' = w.heap.size then (vs ++ news)[o']? else G.imm b' o',G.blk,fun r j=>if r = tk ∧ j = els.length + els'.length then some (.slice (some ⟨w.heap.size,0,none⟩) (els.length + els'.length) cap') else G.tl r j⟩
    have hle : G.le G':=hleT _ _ fun b' o' v e=>by
      show (if b' = w.heap.size then (vs ++ news)[o']? else G.imm b' o') = some v
      rw [if_neg fun h=>by have:=hR.lt e;omega];exact e
    have hblk : ∀ b',b' < w.heap.size → (w.drew.alloc (.cells blkc e)).heap[b']? = w.heap[b']?:=fun b' hb'=>heap_alloc_old w.drew _ b' hb'
    have hnewb : (w.drew.alloc (.cells blkc e)).heap[w.heap.size]? = some (.cells blkc e (0,0)):=heap_alloc_new w.drew _
    refine ⟨_,G',rfl,hle,?_,?_⟩
    · refine hR.turn (hR.base.trans hle) rfl rfl rfl (Nat.le_succ _) (by simp) (fun b' hb'=>hblk b' (Nat.lt_of_lt_of_le hb' hR.size)) (fun b' o' hb'=>if_neg fun h=>by have:=hR.size;omega) (fun b' o' v hv=>?_) (fun q x hx=>?_) (fun q x b' hx hb'=>?_) (fun q q' x x' b' hx hx' hb1 hb2 hlt=>?_) (fun q hq=>?_)
      · have hv' : (if b' = w.heap.size then (vs ++ news)[o']? else G.imm b' o') = some v:=hv
        by_cases hbg : b' = w.heap.size
        · rw [if_pos hbg] at hv'
          subst hbg
          have hlt:=(List.getElem?_eq_some_iff.1 hv').1
          have e1 : (w.drew.alloc (.cells blkc e)).cell? ⟨w.heap.size,o',none⟩ = blkc[o']?:=by
            simp only [World.cell?];rw [hnewb];rfl
          refine e1.trans ?_
          show (vs.toArray ++ news.toArray ++ _)[o']? = some v
          rw [Array.getElem?_append_left (by simp at hlt ⊢;omega)]
          simpa using hv'
        · rw [if_neg hbg] at hv'
          have e1 : (w.drew.alloc (.cells blkc e)).cell? ⟨b',o',none⟩ = w.cell? ⟨b',o',none⟩:=by
            simp only [World.cell?];rw [hblk b' (hR.lt hv')]
          exact e1.trans (hR.imm _ _ _ hv')
      · rcases hset q _ x hx with ⟨rfl,rfl⟩ | ⟨hne,hx⟩
        · refine ⟨fun j hj=>?_,.inr ⟨w.heap.size,cap',blkc,if_pos ⟨rfl,rfl⟩,hR.size,hnewb,hge,hcm,hsz,fun j hj=>?_⟩⟩
          · show (if q = q ∧ j = els.length + els'.length then _ else G.tl q j) = none
            rw [if_neg fun h=>by omega];exact o0 j (by omega)
          · show (if w.heap.size = w.heap.size then (vs ++ news)[j]? else _) = none
            rw [if_pos rfl];exact List.getElem?_eq_none (by omega)
        · exact (hR.obj q x hx).keep hle rfl (fun j=>if_neg fun h=>hne h.1) fun b' hb' hlt=>⟨hblk b' hlt,fun j hj=>by show (if b' = w.heap.size then _ else _) = none;rw [if_neg (by omega)];exact hj⟩
      · rcases hset q _ x hx with ⟨rfl,rfl⟩ | ⟨hne,hx⟩
        · simp only [ownBlk] at hb'
          have e1 : G'.tl q (els.length + els'.length) = some (.slice (some ⟨w.heap.size,0,none⟩) (els.length + els'.length) cap'):=if_pos ⟨rfl,rfl⟩
          rw [e1] at hb';simp only [slBlock,Option.some.injEq] at hb';subst hb'
          exact .inl (Nat.le_refl _)
        · rw [ownBlk.congr (G:=G) (G':=G') rfl (fun j=>if_neg fun h=>hne h.1)] at hb';exact .inr ⟨x,hx,hb'⟩
      · have key : ∀ q x,(h'.set tk (.tail (els.length + els'.length) k e))[q]? = some x → ownBlk G' q x = some b' → q = tk:=fun q x hx hb=>by
          rcases hset q _ x hx with ⟨rfl,rfl⟩ | ⟨hne,hx⟩
          · rfl
          · rw [ownBlk.congr (G:=G) (G':=G') rfl (fun j=>if_neg fun h=>hne h.1)] at hb
            exact absurd ((hR.obj q x hx).own hb).1 (by omega)
        rw [key q x hx hb1,key q' x' hx' hb2]
      · have hq' : h'.length ≤ q:=by simpa [appU] using hq
        obtain ⟨k1,k2⟩:=hR.fresh q hq'
        exact ⟨k1,fun j=>by show (if q = tk ∧ _ then _ else _) = none;rw [if_neg fun h=>by omega];exact k2 j⟩
    · have:=sl_of_flat (G:=G') (b:=w.heap.size) (o:=0) (cap:=cap') (k:=k) (els:=els ++ els') (vs:=vs ++ news) (tok:=some tk) hkk (by simpa using hge) (by rw [List.flatten_append];exact (hvc.mono hle).append (hnc.mono hle))
        (fun j u hu=>by show (if w.heap.size = w.heap.size then (vs ++ news)[0 + j]? else _) = some u;rw [if_pos rfl,Nat.zero_add];exact hu) (fun t e=>by cases e;simp only [List.length_append];exact if_pos ⟨rfl,rfl⟩)
      simpa using this
theorem S_app {t e tk k n by_ : Nat} {x y : Operand} {els els' : List (List AV)} {tok' : Option Nat} {z : Value} [hu : Und P t (.slice e)] [hi : Inf P e k by_ z] [hone : OneLL els'] (hx : ρ x = some (.sl (some tk) k els)) (hy : ρ y = some (.sl tok' k els'))
    (ht : h[tk]? = some (.tail n k e)) (hn : n = els.length) (hk : Nat.blt 0 k = true) (hzk : Nat.beq z.cells.size k = true) (hb : (els.length + els'.length) * by_ ≤ 140737488355328) (h63 : els.length + els'.length < 4611686018427387904) :
    POpS P { dst:=some d,op:=.call { callee:=.builtin .append,args:=#[x,y],argTypes:=#[t,t] },type:=ty,pos:=pos,after:=af,guard:=gd } ρ h [tk] (.sl (some tk) k (els ++ els')) (some (tk,.tail (els.length + els'.length) k e)) :=
  S_appB hx hy ht hn hk hzk (.inl hb) h63
end
end Go.AL
