/- Rules of the abstract logic: slices of structs that are made. No condition. -/
import Derived.Test.YtnjnjbombcefcaaDoorOps7
import Derived.Test.YtnjnjbombcefcaaDoorOps11
set_option linter.all false
namespace Go.AL
theorem made_listK (zc : Array Value) (k : Nat) (hk : zc.size = k) (n : Nat) : (madeCells zc (n * k)).toList = (List.replicate n zc.toList).flatten:=by
  have e1 : ∀ n,(madeCells zc n).toList = (List.range n).map (fun i=>zc[i % k]!):=fun n=>by
    simp [madeCells,hk,Array.toList_range]
  have e2 : (List.range k).map (fun j=>zc[j]!) = zc.toList:=by
    apply List.ext_getElem
    · simp [hk]
    · intro i h1 h2
      simp only [List.length_map,List.length_range] at h1
      simp [hk,h1]
  rw [e1]
  induction n with
  | zero=>simp
  | succ n ih =>
    rw [Nat.succ_mul,List.range_add,List.map_append,ih,List.replicate_succ',List.flatten_append,List.map_map]
    congr 1
    simp only [List.flatten_cons,List.flatten_nil,List.append_nil]
    rw [← e2]
    apply List.map_congr_left
    intro j hj
    have hj:=List.mem_range.1 hj
    show zc[(n * k + j) % k]! = zc[j]!
    rw [Nat.mul_comm,Nat.mul_add_mod,Nat.mod_eq_of_lt hj]
theorem flatV_get {els : List (List Value)} {k : Nat} (hk : ∀ e,e ∈ els → e.length = k) : ∀ (i j : Nat),j < k → els.flatten[i * k + j]? = els[i]?.bind (·[j]?):=by
  induction els with
  | nil=>simp
  | cons x l ih =>
    intro i j hj
    have hx:=hk x (List.mem_cons_self ..)
    cases i with
    | zero=>rw [List.flatten_cons,Nat.zero_mul,Nat.zero_add,List.getElem?_append_left (by omega)];rfl
    | succ i =>
      rw [List.flatten_cons,Nat.succ_mul,List.getElem?_append_right (by omega),show i * k + k + j - x.length = i * k + j by omega,ih (fun e he=>hk e (List.mem_cons_of_mem _ he)) i j hj];rfl
section
variable {P : Program} [GlobF P] {ty : TypeId} {pos : String} {af : Array Edge} {dst : Option Nat} {gd : Option (Nat × Bool)} {ρ : Operand → Option AV}
theorem D_mkK {t e k by_ : Nat} {x y : Operand} {z : Value} {kl kc : IntKind} {n : Nat} [hu : Und P t (.slice e)] [hi : Inf P e k by_ z] (hx : ρ x = some (.sc (.int kl (n : Int)))) (hy : ρ y = some (.sc (.int kc (n : Int)))) (hz : z.cells.size = k) (h0 : 0 < k)
    (hb : by_ * n ≤ 281474976710656) (h63 : n ≤ 9223372036854775807) : PPOp P { dst:=dst,op:=.makeSlice t x y,type:=ty,pos:=pos,after:=af,guard:=gd } ρ (.sl none k (List.replicate n (z.cells.toList.map .sc))) :=
  PPOp.op (by simp) (fun B G a w hR E=>by
    obtain ⟨i,i1,i2,i3,i4⟩:=hi.h
    have ex:=conc_sc (E x (by simp [Op.operands]) _ hx)
    have ey:=conc_sc (E y (by simp [Op.operands]) _ hy)
    have hb' : (i.bytes : Int) * (n : Int) ≤ 281474976710656:=by
      have h : ((i.bytes * n : Nat) : Int) ≤ 281474976710656:=by rw [i3];omega
      rwa [Int.natCast_mul] at h
    have hrun:=run_make (P:=P) w t e i z hu.h i1 i4 kl kc n n (by omega) (Int.le_refl _) hb' (by omega)
    simp only [Int.toNat_natCast,i2] at hrun
    have hml:=made_listK z.cells k hz n
    obtain ⟨hle,hr'⟩:=hR.allocImm (List.replicate n z.cells.toList).flatten e (0,0) 0
    have hll : (List.replicate n z.cells.toList).flatten.length = n * k:=by
      rw [List.length_flatten,List.map_replicate,List.sum_replicate_nat,Array.length_toList,hz]
    refine ⟨.slice (some ⟨w.heap.size,0,none⟩) n n,_,_,?_,hle,hr',?_⟩
    · simp only [execOp,ex,ey,Sem.run_bind,hrun,Result.andThen_ok]
      have : madeCells z.cells (n * k) = (List.replicate n z.cells.toList).flatten.toArray:=by rw [← hml,Array.toArray_toList]
      rw [this];rfl
    · have:=sl_new (G:=⟨fun b o=>if b = w.heap.size then (List.replicate n z.cells.toList).flatten[o]? else G.imm b o,G.blk,G.tl⟩) (b:=w.heap.size) (cap:=n) (k:=k) (els:=List.replicate n (z.cells.toList.map .sc)) (c:=(List.replicate n z.cells.toList).flatten)
        (fun e he=>by rw [List.eq_of_mem_replicate he,List.length_map,Array.length_toList,hz]) (by simp) (fun j u hu=>by simpa using hu) (by rw [List.length_replicate,hll];exact Nat.le_refl _) (fun i e j x u he hx hu=>by
          have h1:=List.eq_of_mem_replicate (List.mem_of_getElem? he)
          have hin : i < n:=by have:=(List.getElem?_eq_some_iff.1 he).1;simpa using this
          subst h1
          have hjk : j < k:=by have:=(List.getElem?_eq_some_iff.1 hx).1;simpa [hz] using this
          have hu2 : (List.replicate n z.cells.toList).flatten[i * k + j]? = z.cells.toList[j]?:=by
            rw [flatV_get (fun e he=>by rw [List.eq_of_mem_replicate he,Array.length_toList,hz]) i j hjk,List.getElem?_replicate,if_pos hin];rfl
          rw [hu2] at hu
          rw [List.getElem?_map,hu] at hx
          simp at hx;subst hx;exact .sc _)
      simpa using this)
end
theorem Wkn.sls {k : Nat} {els els' : List (List AV)} (hl : els'.length = els.length) (h : ∀ (i : Nat) (e e' : List AV),els[i]? = some e → els'[i]? = some e' → WknL e e' ∧ e'.length = e.length) : Wkn (.sl none k els) (.sl none k els'):=fun G v hv=>by
  have key : ∀ i e',els'[i]? = some e' → ∃ e,els[i]? = some e:=fun i e' he=>by
    have:=(List.getElem?_eq_some_iff.1 he).1
    exact ⟨_,List.getElem?_eq_getElem (by omega)⟩
  cases hv with
  | sl us hk hcap him hc ht =>
    have hw : ∀ (xs ys : List AV),WknL xs ys → ∀ (j : Nat) (x y : AV),xs[j]? = some x → ys[j]? = some y → Wkn x y:=by
      intro xs
      induction xs with
      | nil=>intro ys _ j x y hx;simp at hx
      | cons a xs ih =>
        intro ys hw j x y hx hy
        cases ys with
        | nil=>exact hw.elim
        | cons b ys =>
          cases j with
          | zero=>simp at hx hy;subst hx hy;exact hw.1
          | succ j=>exact ih ys hw.2 j x y (by simpa using hx) (by simpa using hy)
    rw [← hl]
    refine .sl us (fun e' he=>?_) (by omega) (fun i j hi hj=>him i j (by omega) hj) (fun i e' j y he hy=>?_) (fun t e=>by cases e)
    · obtain ⟨i,hi,rfl⟩:=List.getElem_of_mem he
      obtain ⟨e,h1⟩:=key i _ (List.getElem?_eq_getElem hi)
      rw [(h i e _ h1 (List.getElem?_eq_getElem hi)).2]
      exact hk e (List.mem_of_getElem? h1)
    · obtain ⟨e,h1⟩:=key i e' he
      obtain ⟨h2,h3⟩:=h i e e' h1 he
      have hj : j < e.length:=by have:=(List.getElem?_eq_some_iff.1 hy).1;omega
      have hx:=List.getElem?_eq_getElem hj
      exact hw e e' h2 j _ y hx hy G _ (hc i e j _ h1 hx)
  | slnil ht =>
    have : els' = []:=List.length_eq_zero_iff.1 hl
    subst this
    exact .slnil (fun t e=>by cases e)
  | slz =>
    have : els' = []:=List.length_eq_zero_iff.1 hl
    subst this
    exact .slz
theorem Wkn.slR {k n : Nat} {e e' : List AV} (h : WknL e e') (hl : e'.length = e.length) : Wkn (.sl none k (List.replicate n e)) (.sl none k (List.replicate n e')) :=
  Wkn.sls (by simp) fun i a b ha hb=>by
    have h1:=List.eq_of_mem_replicate (List.mem_of_getElem? ha)
    have h2:=List.eq_of_mem_replicate (List.mem_of_getElem? hb)
    subst h1 h2
    exact ⟨h,hl⟩
end Go.AL
