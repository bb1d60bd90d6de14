/- The leaves of texts' nodes, as values and names are read; nodes as abstract values. -/
import Derived.Test.YtnjnjbombcefcaaDoorCT11
import Derived.Test.YtnjnjbombcefcaaDoorCDInst
import Derived.Test.YtnjnjbombcefcaaDoorPTx4
set_option linter.all false
namespace Go.Proofs
open Go.AL Go.Txt
attribute [local irreducible] Go.AL.W Go.AL.WL Go.AL.WD Go.AL.POp Go.AL.PPOp Go.AL.POpS Go.AL.PC Go.AL.AC Go.AL.YW Go.AL.Ret Go.AL.Le Go.AL.thn Go.AL.inBlk Go.AL.scp
theorem itoa10 (n : Int) : ∀ c,c ∈ Lib.itoa n → c ≠ 10:=by
  have hd : ∀ (u : Nat) (c : UInt8),c ∈ Lib.decDigits u → c ≠ 10:=fun u c hc e=>by
    have:=dec_digs u c hc
    rw [e] at this
    exact absurd this.1 (by decide)
  by_cases hneg : n < 0
  · obtain ⟨u,rfl⟩ : ∃ u : Nat,n = -(u : Int):=⟨n.natAbs,by omega⟩
    rw [Lib.itoa_neg u (by omega)]
    intro c hc
    rcases List.mem_cons.1 hc with rfl|hc
    · decide
    · exact hd u c hc
  · obtain ⟨u,rfl⟩ : ∃ u : Nat,n = u:=⟨n.toNat,by omega⟩
    rw [Lib.itoa_nonneg]
    exact hd u
theorem hex10 (x : UInt8) : ∀ c,c ∈ hexL x → c ≠ 10:=fun c hc=>by
  have : c ∈ digs:=by
    simp only [hexL,List.mem_cons,List.not_mem_nil,or_false] at hc
    rcases hc with rfl|rfl <;> exact List.getElem_mem _
  exact (by decide : ∀ c,c ∈ digs → c ≠ 10) c this
theorem text10 {v : Val} (hm : MayP v) : ∀ c,c ∈ textL v → c ≠ 10:=by
  have h10 : ((10 : UInt8).toNat : Int) = 10:=by decide
  intro c hc e
  subst e
  unfold textL at hc
  split at hc
  · exact itoa10 _ _ hc rfl
  split at hc
  · split at hc <;> revert hc <;> decide
  split at hc
  · rcases List.mem_cons.1 hc with h|h
    · revert h;decide
    · exact itoa10 _ _ h rfl
  split at hc
  · rcases List.mem_cons.1 hc with h|h
    · revert h;decide
    · exact itoa10 _ _ h rfl
  split at hc
  · next h7 =>
    rcases List.mem_cons.1 hc with h|h
    · revert h;decide
    · have hw : WordP v.s:=by
        rcases hm with ⟨h,_⟩ | ⟨h,_⟩ | ⟨h,_⟩ | ⟨h,_⟩ | ⟨_,_,h⟩
        · omega
        · omega
        · omega
        · omega
        · exact h
      obtain ⟨j,hj,e⟩:=List.getElem_of_mem h
      have:=hw.2.2 j hj
      rw [e] at this
      simp only [lowP,tailP,digP,h10] at this
      omega
  split at hc
  · rcases List.mem_cons.1 hc with h|h
    · revert h;decide
    · obtain ⟨x,_,hx⟩:=List.mem_flatMap.1 h
      exact hex10 x _ hx rfl
  · rcases List.mem_cons.1 hc with h|h
    · revert h;decide
    · rcases List.mem_append.1 h with h|h
      · obtain ⟨x,_,hx⟩:=List.mem_flatMap.1 h
        unfold escL at hx
        split at hx
        · next hp =>
          rw [List.mem_singleton] at hx
          rw [← hx] at hp
          exact absurd hp.1 (by decide)
        · rcases List.mem_cons.1 hx with h|h
          · revert h;decide
          · exact hex10 x _ h rfl
      · revert h;decide
theorem named10 {w : List UInt8} (h : NamedP w) : ∀ c,c ∈ w → c ≠ 10:=fun c hc e=>by
  subst e
  have h10 : ((10 : UInt8).toNat : Int) = 10:=by decide
  obtain ⟨j,hj,e⟩:=List.getElem_of_mem hc
  have:=(h.2.2.2.2 j hj).1
  rw [e] at this
  rcases this with h|h|h
  · simp only [digP,h10] at h;omega
  · simp only [lowP,h10] at h;omega
  · revert h;decide
open Classical in
noncomputable def leafT : Leaf:=fun w=>if parseE w = 0 then some (1,(parseV w).kind,(parseV w).n,(parseV w).s,[]) else if NamedP w then some (2,0,0,[],w) else none
theorem leaf10 : ∀ w x,leafT w = some x → ∀ c,c ∈ w → c ≠ 10:=by
  intro w x h
  unfold leafT at h
  split at h
  · next h0 =>
    rcases parse_cases w with ⟨v,hv,hm⟩|hno
    · rw [← text_read hv];exact text10 hm
    · rw [(parse_no hno).2] at h0;exact absurd h0 (by decide)
  · split at h
    · next hn=>exact named10 hn
    · cases h
theorem leaf_v {w : List UInt8} (h : parseE w = 0) : leafT w = some (1,(parseV w).kind,(parseV w).n,(parseV w).s,[]):=by unfold leafT;rw [if_pos h]
theorem leaf_n {w : List UInt8} (h : parseE w ≠ 0) (hn : NamedP w) : leafT w = some (2,0,0,[],w):=by unfold leafT;rw [if_neg h,if_pos hn]
theorem leaf_no {w : List UInt8} (h : parseE w ≠ 0) (hn : ¬ NamedP w) : leafT w = none:=by unfold leafT;rw [if_neg h,if_neg hn]
theorem parseE_cases (w : List UInt8) : parseE w = 0 ∨ (parseE w = 11 ∧ parseV w = zV):=by
  rcases parse_cases w with ⟨v,hv,hm⟩|hno
  · exact .inl (parse_ok hv hm).2
  · exact .inr ⟨(parse_no hno).2,(parse_no hno).1⟩
mutual
def ndC : Nd → List AV
  | .mk k vk vn vs s kids ln cl=>[.sc (.int .i64 k),.sc (.int .i64 vk),.sc (.int .i64 vn),str vs,str s,.sl none 8 (ndCs kids),.sc (.int .i64 ln),.sc (.int .i64 cl)]
def ndCs : List Nd → List (List AV)
  | []=>[]
  | x :: l=>ndC x :: ndCs l
end
mutual
theorem ndC_pur : (x : Nd) → PurL (ndC x)
  | .mk k vk vn vs s kids ln cl=>by
    haveI:=ndCs_pur kids
    unfold ndC;infer_instance
theorem ndCs_pur : (l : List Nd) → PurLL (ndCs l)
  | []=>by unfold ndCs;infer_instance
  | x :: l=>by
    haveI:=ndC_pur x
    haveI:=ndCs_pur l
    unfold ndCs;infer_instance
end
instance (x : Nd) : PurL (ndC x):=ndC_pur x
instance (l : List Nd) : PurLL (ndCs l):=ndCs_pur l
theorem ndC_len (x : Nd) : (ndC x).length = 8:=by cases x;unfold ndC;rfl
theorem ndCs_map (l : List Nd) : ndCs l = l.map ndC:=by
  induction l with
  | nil=>unfold ndCs;rfl
  | cons x l ih=>unfold ndCs;rw [ih];rfl
theorem ndCs_len (l : List Nd) : (ndCs l).length = l.length:=by rw [ndCs_map,List.length_map]
theorem ndCs_app (l m : List Nd) : ndCs (l ++ m) = ndCs l ++ ndCs m:=by rw [ndCs_map,ndCs_map,ndCs_map,List.map_append]
theorem ndCs_w (l : List Nd) : ∀ x,x ∈ ndCs l → x.length = 8:=fun x hx=>by
  rw [ndCs_map] at hx
  obtain ⟨a,_,rfl⟩:=List.mem_map.1 hx
  exact ndC_len a
def resV : Res → AV
  | .ok l=>.tu [.sl none 8 (ndCs l),.sc (.int .i64 0),.sc (.int .i64 0),.sc (.int .i64 0)]
  | .err ln cl=>.tu [.sl none 8 [],.sc (.int .i64 (ln : Nat)),.sc (.int .i64 (cl : Nat)),.sc (.int .i64 50)]
end Go.Proofs

namespace Go.Txt
theorem rleaf_m {leaf : Leaf} {s : List UInt8} {i many : Nat} {x : Nd} {i2 m2 : Nat} (h : rleaf leaf s i many = .ok (x,i2,m2)) : m2 ≤ 5000:=by
  unfold rleaf at h
  split at h
  · cases h
  · split at h
    · cases h
    · next hz =>
      split at h
      · cases h
      · split at h
        · cases h;omega
        · cases h
theorem rnodes_m (leaf : Leaf) (s : List UInt8) : ∀ (f : Nat) (e : Option UInt8) (i deep many : Nat) (xs : List Nd) (i2 m2 : Nat),many ≤ 5000 → rnodes leaf s f e i deep many = .ok (xs,i2,m2) → m2 ≤ 5000
  | 0,_,_,_,_,_,_,_,_,h=>by rw [rnodes] at h;cases h
  | f + 1, e, i,deep,many,xs,i2,m2,hm,h=>by
    rcases Nat.lt_or_ge (i + skipL (s.drop i)) s.length with hj|hj
    · by_cases hc : s[i + skipL (s.drop i)] ∈ cls
      · rw [rnodes_cl hj hc] at h
        split at h
        · cases h;exact hm
        · cases h
      · rw [rnodes_nd hj hc] at h
        split at h
        · cases h
        · next x i3 m3 hx =>
          have h3 : m3 ≤ 5000:=by
            unfold rnode at hx
            split at hx
            · split at hx
              · cases hx
              · next hz =>
                split at hx
                · cases hx
                · next ks i4 m4 hks =>
                  cases hx
                  exact rnodes_m leaf s f _ _ _ _ _ _ _ (by omega) hks
            · exact rleaf_m hx
          split at h
          · cases h
          · next hy =>
            cases h
            exact rnodes_m leaf s f _ _ _ _ _ _ _ h3 hy
    · rw [rnodes_end hj] at h
      split at h
      · cases h
      · cases h;exact hm
theorem rnode_m {leaf : Leaf} {s : List UInt8} {f : Nat} {c : UInt8} {i deep many : Nat} {x : Nd} {i2 m2 : Nat} (h : rnode leaf s f c i deep many = .ok (x,i2,m2)) : m2 ≤ 5000:=by
  unfold rnode at h
  split at h
  · split at h
    · cases h
    · split at h
      · cases h
      · next ks i4 m4 hks =>
        cases h
        exact rnodes_m leaf s f _ _ _ _ _ _ _ (by omega) hks
  · exact rleaf_m h
end Go.Txt
