/- Contract of the program's Parse: what is known of the heap while tokens come. -/
import Derived.Test.YtnjnjbombcefcaaDoorCX1
import Derived.Test.YtnjnjbombcefcaaDoorPTx
import Derived.Test.YtnjnjbombcefcaaDoorOps46
import Derived.Test.YtnjnjbombcefcaaDoorOps26
set_option linter.all false
namespace Go.Proofs
open Go.AL Go.Txt
attribute [local irreducible] Go.AL.W Go.AL.WL Go.AL.WD Go.AL.POp Go.AL.PPOp Go.AL.POpS Go.AL.PC Go.AL.AC Go.AL.YW Go.AL.Ret Go.AL.Le Go.AL.thn Go.AL.inBlk Go.AL.scp
abbrev i64 (n : Int) : AV:=.sc (.int .i64 n)
abbrev nilV : AV:=.sc (.slice none 0 0)
abbrev tN : Nat:=35
abbrev tS : Nat:=22
abbrev rawN : AObj:=.raw (.deferred (some []))
theorem tokens_pc [GlobF Tryd.prog] (s : List UInt8) : PC Tryd.prog 38 [str s] (.fn (.func 81) [] [.ep [str s]]):=by
  refine PC.of_body Tryd.func38 Tryd.ntmps38 rfl rfl rfl ?_
  repeat' first
 | (apply p1 (hd:=rfl);case hop=>first|(apply D_assign;rfl)|(apply D_box;rfl;rfl)|exact D_mkfn rfl)
 | refine W_seq ?_
 | refine W_region ?_
 | refine WL_nil ?_
 | refine tn ?_
 | refine W_ret ?_
 | (refine idR ?_;refine ret1 rfl rfl rfl ?_)
  all_goals first|exact Le.of_eq rfl|rfl|trace_state
abbrev base : List Nat:=[0,1,2,3,5,6,7,8,9]
structure Dst (q : Nat) (nv : AV) (L : List AV) : Prop where
  d1 : q ∉ base
  d2 : ∀ i,i ∈ mcP nv → i ∉ base ∧ i ≠ q
  d3 : ∀ v,v ∈ L → ∀ i,i ∈ mcP v → i ∉ base ∧ i ≠ q ∧ i ∉ mcP nv
  d4 : L.Pairwise fun v w=>∀ i,i ∈ mcP v → i ∉ mcP w
def cntL (out : List (List Nd × Nd)) : Nat:=(out.map fun x=>x.1.length + 1).sum
theorem cntL_app (a b : List (List Nd × Nd)) : cntL (a ++ b) = cntL a + cntL b:=by unfold cntL;rw [List.map_append,List.sum_append]
structure PInv (X : AObj) (out : List (List Nd × Nd)) (cur : List Nd) (many : Nat) (h : List AObj) : Prop where
  a0 : h[0]? = some (.cells [nilV])
  a1 : h[1]? = some (.cells [i64 0])
  a2 : h[2]? = some (.cells [i64 0])
  a3 : h[3]? = some (.cells [i64 0])
  a7 : h[7]? = some (.cells [i64 (many : Int)])
  a8 : h[8]? = some rawN
  a9 : h[9]? = some X
  deep : out.length ≤ 50
  lim : many ≤ 5000
  cnt : cur.length + cntL out ≤ many
  sl : ∃ (hvs : List AV) (cv nv : AV) (q cap : Nat) (sp : List AV),h[5]? = some (.cells [.mc q (out.length + 1) cap]) ∧ h[q]? = some (.cells (hvs ++ [cv] ++ sp) (some tS)) ∧ (hvs ++ [cv] ++ sp).length = cap ∧ cap ≤ maxLen ∧ hvs.length = out.length ∧
    h[6]? = some (.cells [nv]) ∧ SlK 8 tN (ndCs (out.map (·.2))) nv h ∧ (∀ (i : Nat) (x : List Nd × Nd) (v : AV),out[i]? = some x → hvs[i]? = some v → SlK 8 tN (ndCs x.1) v h) ∧ SlK 8 tN (ndCs cur) cv h ∧
    Dst q nv (hvs ++ [cv])
theorem nd_base {q : Nat} {nv cv : AV} {hvs : List AV} (h : Dst q nv (hvs ++ [cv])) {i : Nat} (hi : i ∈ base) : q ≠ i ∧ i ∉ mcP nv ∧ i ∉ mcP cv ∧ ∀ v,v ∈ hvs → i ∉ mcP v :=
  ⟨fun e=>h.d1 (e ▸ hi),fun hm=>(h.d2 i hm).1 hi,fun hm=>(h.d3 cv (by simp) i hm).1 hi,fun v hv hm=>(h.d3 v (by simp [hv]) i hm).1 hi⟩
theorem flat_nm {hvs : List AV} {i : Nat} (h : ∀ v,v ∈ hvs → i ∉ mcP v) {v : AV} (hv : v ∈ hvs) : i ∉ mcP v:=h v hv
theorem get_set' {α : Type} {h : List α} {i j : Nat} {x y : α} (hi : h[i]? = some x) (hne : j ≠ i) : (h.set j y)[i]? = some x:=get_ne hne hi
theorem PInv.app {X : AObj} {out : List (List Nd × Nd)} {cur : List Nd} {many : Nat} {h : List AObj} (hP : PInv X out cur many h) (o : AObj) : PInv X out cur many (h ++ [o]):=by
  obtain ⟨hvs,cv,nv,q,cap,sp,s1,s2,s3,s4,s5,s6,s7,s8,s9,s10⟩:=hP.sl
  exact ⟨get_app hP.a0,get_app hP.a1,get_app hP.a2,get_app hP.a3,get_app hP.a7,get_app hP.a8,get_app hP.a9,hP.deep,hP.lim,hP.cnt,hvs,cv,nv,q,cap,sp,get_app s1,get_app s2,s3,s4,s5,get_app s6,s7.app o,fun i x v hx hv=>(s8 i x v hx hv).app o,s9.app o,s10⟩
theorem PInv.turn {X : AObj} {out : List (List Nd × Nd)} {cur : List Nd} {many : Nat} {h : List AObj} (hP : PInv X out cur many h) (X' : AObj) : PInv X' out cur many (h.set 9 X'):=by
  obtain ⟨hvs,cv,nv,q,cap,sp,s1,s2,s3,s4,s5,s6,s7,s8,s9,s10⟩:=hP.sl
  obtain ⟨d1,d2,d3,d4⟩:=nd_base s10 (i:=9) (by decide)
  exact ⟨get_ne (by decide) hP.a0,get_ne (by decide) hP.a1,get_ne (by decide) hP.a2,get_ne (by decide) hP.a3,get_ne (by decide) hP.a7,get_ne (by decide) hP.a8,get_set hP.a9,hP.deep,hP.lim,hP.cnt,hvs,cv,nv,q,cap,sp,get_ne (by decide) s1,get_ne (Ne.symm d1) s2,s3,s4,s5,get_ne (by decide) s6,s7.set d2 _,fun i x v hx hv=>(s8 i x v hx hv).set (flat_nm d4 (List.mem_of_getElem? hv)) _,s9.set d3 _,s10⟩
theorem nodkX {a b c d e f g : AV} : Wkn (.ag [a,b,c,d,e,.sc (.slice none 0 0),f,g]) (.ag [a,b,c,d,e,.sl none 8 [],f,g]) :=
  Wkn.ag ⟨Wkn.refl _,Wkn.refl _,Wkn.refl _,Wkn.refl _,Wkn.refl _,Wkn.nil,Wkn.refl _,Wkn.refl _,trivial⟩
theorem PInv.many {X : AObj} {out : List (List Nd × Nd)} {cur : List Nd} {many m' : Nat} {h : List AObj} (hP : PInv X out cur many h) (h1 : many ≤ m') (h2 : m' ≤ 5000) : PInv X out cur m' (h.set 7 (.cells [i64 (m' : Int)])):=by
  obtain ⟨hvs,cv,nv,q,cap,sp,s1,s2,s3,s4,s5,s6,s7,s8,s9,s10⟩:=hP.sl
  obtain ⟨d1,d2,d3,d4⟩:=nd_base s10 (i:=7) (by decide)
  exact ⟨get_ne (by decide) hP.a0,get_ne (by decide) hP.a1,get_ne (by decide) hP.a2,get_ne (by decide) hP.a3,get_set hP.a7,get_ne (by decide) hP.a8,get_ne (by decide) hP.a9,hP.deep,h2,Nat.le_trans hP.cnt h1,hvs,cv,nv,q,cap,sp,get_ne (by decide) s1,get_ne (Ne.symm d1) s2,s3,s4,s5,get_ne (by decide) s6,s7.set d2 _,fun i x v hx hv=>(s8 i x v hx hv).set (flat_nm d4 (List.mem_of_getElem? hv)) _,s9.set d3 _,s10⟩
theorem PInv.node {X : AObj} {out : List (List Nd × Nd)} {cur : List Nd} {many : Nat} {h : List AObj} (hP : PInv X out cur many h) {b : Nat} {xs : List AV} (hb : h[b]? = some (.cells xs)) (h9 : 9 < b) (o : AObj) : PInv X out cur many (h.set b o):=by
  obtain ⟨hvs,cv,nv,q,cap,sp,s1,s2,s3,s4,s5,s6,s7,s8,s9,s10⟩:=hP.sl
  have hne : ∀ {e : Nat} {els : List (List AV)} {v : AV},SlK 8 e els v h → b ∉ mcP v:=fun hS hm=>by
    obtain ⟨ys,hy⟩:=hS.lt hm
    exact ne_ty hy hb rfl
  exact ⟨get_ne (by omega) hP.a0,get_ne (by omega) hP.a1,get_ne (by omega) hP.a2,get_ne (by omega) hP.a3,get_ne (by omega) hP.a7,get_ne (by omega) hP.a8,get_ne (by omega) hP.a9,hP.deep,hP.lim,hP.cnt,hvs,cv,nv,q,cap,sp,get_ne (by omega) s1,get_ne (Ne.symm (ne_ty s2 hb)) s2,s3,s4,s5,get_ne (by omega) s6,s7.set (hne s7) _,fun i x v hx hv=>(s8 i x v hx hv).set (hne (s8 i x v hx hv)) _,s9.set (hne s9) _,s10⟩
structure PRow (X : AObj) (out : List (List Nd × Nd)) (cur : List Nd) (many : Nat) (h : List AObj) : Prop where
  a0 : h[0]? = some (.cells [nilV])
  a1 : h[1]? = some (.cells [i64 0])
  a2 : h[2]? = some (.cells [i64 0])
  a3 : h[3]? = some (.cells [i64 0])
  a8 : h[8]? = some rawN
  a9 : h[9]? = some X
  sl : ∃ (q j r n : Nat) (xs : List AV) (els : List (List AV)),h[q]? = some (.cells xs (some tS)) ∧ xs[j]? = some (rowA r n) ∧ h[r]? = some (.row 8 tN els) ∧ n = els.length ∧ 0 < n ∧ q ≠ r ∧ 9 < r ∧ q ≠ 9 ∧
    ∀ sp cap,n ≤ cap → cap ≤ maxLen → (els.flatten ++ sp).length = cap * 8 → PInv X out cur many ((h.set r (.cells (els.flatten ++ sp) (some tN))).set q (.cells (xs.set j (.mc r n cap)) (some tS)))
theorem PRow.app {X : AObj} {out : List (List Nd × Nd)} {cur : List Nd} {many : Nat} {h : List AObj} (hP : PRow X out cur many h) (o : AObj) : PRow X out cur many (h ++ [o]):=by
  obtain ⟨q,j,r,n,xs,els,k1,k2,k3,k4,k5,k6,k7,k8,k9⟩:=hP.sl
  refine ⟨get_app hP.a0,get_app hP.a1,get_app hP.a2,get_app hP.a3,get_app hP.a8,get_app hP.a9,q,j,r,n,xs,els,get_app k1,k2,get_app k3,k4,k5,k6,k7,k8,fun sp cap c1 c2 c3=>?_⟩
  have hr:=(List.getElem?_eq_some_iff.1 k3).1
  have hq:=(List.getElem?_eq_some_iff.1 k1).1
  rw [List.set_append_left _ _ hr,List.set_append_left _ _ (by rw [List.length_set];exact hq)]
  exact (k9 sp cap c1 c2 c3).app o
theorem PRow.turn {X : AObj} {out : List (List Nd × Nd)} {cur : List Nd} {many : Nat} {h : List AObj} (hP : PRow X out cur many h) (X' : AObj) : PRow X' out cur many (h.set 9 X'):=by
  obtain ⟨q,j,r,n,xs,els,k1,k2,k3,k4,k5,k6,k7,k8,k9⟩:=hP.sl
  refine ⟨get_ne (by decide) hP.a0,get_ne (by decide) hP.a1,get_ne (by decide) hP.a2,get_ne (by decide) hP.a3,get_ne (by decide) hP.a8,get_set hP.a9,q,j,r,n,xs,els,get_ne (Ne.symm k8) k1,k2,get_ne (by omega) k3,k4,k5,k6,k7,k8,fun sp cap c1 c2 c3=>?_⟩
  rw [List.set_comm _ _ (show (9 : Nat) ≠ r by omega),List.set_comm _ _ (Ne.symm k8)]
  exact (k9 sp cap c1 c2 c3).turn X'
theorem W_norm {fr : Option Nat} {N : Nat} {Q : Exit → AS → Prop} {cd : Code} {rg : List (Nat × AV)} {mk : Mk} [GlobF Tryd.prog] {X : AObj} {out : List (List Nd × Nd)} {cur : List Nd} {many : Nat} {hb E : List AObj} (hP : PInv X out cur many hb ∨ PRow X out cur many hb)
    (hk : ∀ hb',hb'.length = hb.length → PInv X out cur many hb' → W Tryd.prog fr N cd Q ⟨rg,hb' ++ E,mk⟩) : W Tryd.prog fr N cd Q ⟨rg,hb ++ E,mk⟩:=by
  rcases hP with hP|hP
  · exact hk hb rfl hP
  · obtain ⟨q,j,r,n,xs,els,k1,k2,k3,k4,k5,k6,k7,k8,k9⟩:=hP.sl
    refine W_rowCC q j r (get_app k1) k2 (get_app k3) k4 k5 k6 ?_
    intro sp cap c1 c2 c3
    have hr:=(List.getElem?_eq_some_iff.1 k3).1
    have hq:=(List.getElem?_eq_some_iff.1 k1).1
    rw [List.set_append_left _ _ hr,List.set_append_left _ _ (by rw [List.length_set];exact hq)]
    exact hk _ (by rw [List.length_set,List.length_set]) (k9 sp cap c1 c2 c3)
theorem pinv_app {X : AObj} {oo : List (List Nd × Nd)} {cc : List Nd} {m : Nat} {h h' : List AObj} {x : Nd} {hvs qs : List AV} {cv cv' nv : AV} {q qc : Nat} (hP : PInv X oo cc m h)
    (s1 : h[5]? = some (.cells [.mc q (oo.length + 1) qc])) (s2 : h[q]? = some (.cells (hvs ++ [cv] ++ qs) (some tS))) (s3 : (hvs ++ [cv] ++ qs).length = qc) (s4 : qc ≤ maxLen) (s5 : hvs.length = oo.length)
    (s6 : h[6]? = some (.cells [nv])) (s7 : SlK 8 tN (ndCs (oo.map (·.2))) nv h) (s8 : ∀ (i : Nat) (x : List Nd × Nd) (v : AV),oo[i]? = some x → hvs[i]? = some v → SlK 8 tN (ndCs x.1) v h) (s9 : SlK 8 tN (ndCs cc) cv h) (s10 : Dst q nv (hvs ++ [cv]))
    (F : ∀ i,i < h.length → i ≠ q → i ∉ mcP cv → h'[i]? = h[i]?) (nq : h'[q]? = some (.cells (hvs ++ [cv'] ++ qs) (some tS))) (nS : SlK 8 tN (ndCs (cc ++ [x])) cv' h') (hc : ∀ i,i ∈ mcP cv' → i ∈ mcP cv ∨ h.length ≤ i) (hcnt : cc.length + 1 + cntL oo ≤ m) : PInv X oo (cc ++ [x]) m h':=by
  have hb : ∀ {i : Nat} {y : AObj},i ∈ base → h[i]? = some y → h'[i]? = some y:=fun {i y} hi hy=>by
    obtain ⟨n1,n2,n3,n4⟩:=nd_base s10 hi
    exact (F i (List.getElem?_eq_some_iff.1 hy).1 (Ne.symm n1) n3).trans hy
  have hlt : ∀ {e : Nat} {els : List (List AV)} {v : AV},SlK 8 e els v h → ∀ i,i ∈ mcP v → i < h.length:=fun hS i hi=>by
    obtain ⟨ys,hy⟩:=hS.lt hi
    exact (List.getElem?_eq_some_iff.1 hy).1
  have hfr : ∀ {e : Nat} {els : List (List AV)} {v : AV},SlK 8 e els v h → (∀ i,i ∈ mcP v → i ≠ q ∧ i ∉ mcP cv) → SlK 8 e els v h':=fun hS hn=>hS.frame fun i hi=>F i (hlt hS i hi) (hn i hi).1 (hn i hi).2
  have hqb:=s10.d1
  have hpw:=s10.d4
  rw [List.pairwise_append] at hpw
  refine ⟨hb (by decide) hP.a0,hb (by decide) hP.a1,hb (by decide) hP.a2,hb (by decide) hP.a3,hb (by decide) hP.a7,hb (by decide) hP.a8,hb (by decide) hP.a9,hP.deep,hP.lim,by rw [List.length_append];exact hcnt,hvs,cv',nv,q,qc,qs,hb (by decide) s1,nq,?_,s4,s5,hb (by decide) s6,?_,?_,nS,?_⟩
  · rw [← s3];simp
  · exact hfr s7 fun i hi=>⟨(s10.d2 i hi).2,fun hm=>(s10.d3 cv (by simp) i hm).2.2 hi⟩
  · intro i x v hx hv
    have hvm:=List.mem_of_getElem? hv
    exact hfr (s8 i x v hx hv) fun j hj=>⟨(s10.d3 v (by simp [hvm]) j hj).2.1,hpw.2.2 v hvm cv (by simp) j hj⟩
  · have hnew : ∀ i,h.length ≤ i → i ∉ base ∧ i ≠ q ∧ i ∉ mcP nv:=fun i hi=>by
      have h9:=(List.getElem?_eq_some_iff.1 hP.a9).1
      have hq:=(List.getElem?_eq_some_iff.1 s2).1
      refine ⟨fun hm=>?_,by omega,fun hm=>by have:=hlt s7 i hm;omega⟩
      simp only [base,List.mem_cons,List.not_mem_nil,or_false] at hm
      omega
    refine ⟨s10.d1,s10.d2,fun v hv i hi=>?_,?_⟩
    · rcases List.mem_append.1 hv with hv|hv
      · exact s10.d3 v (by simp [hv]) i hi
      · rw [List.mem_singleton] at hv;subst hv
        rcases hc i hi with h1|h1
        · exact s10.d3 cv (by simp) i h1
        · exact hnew i h1
    · rw [List.pairwise_append]
      refine ⟨hpw.1,List.pairwise_singleton _ _,fun v hv w hw i hi hm=>?_⟩
      rw [List.mem_singleton] at hw;subst hw
      rcases hc i hm with h1|h1
      · exact hpw.2.2 v hv cv (by simp) i hi h1
      · obtain ⟨k,hk,e⟩:=List.getElem_of_mem hv
        have hx : oo[k]? = some (oo[k]'(by omega)):=List.getElem?_eq_getElem (by omega)
        have:=hlt (s8 k _ v hx (by rw [List.getElem?_eq_getElem hk,e])) i hi
        omega
theorem pinv_push {X : AObj} {oo : List (List Nd × Nd)} {cc : List Nd} {m : Nat} {h h' : List AObj} {hd : Nd} {hvs qs qs' : List AV} {cv nv nv' : AV} {q qc q' qc' : Nat} (hP : PInv X oo cc m h)
    (s2 : h[q]? = some (.cells (hvs ++ [cv] ++ qs) (some tS))) (s5 : hvs.length = oo.length)
    (s7 : SlK 8 tN (ndCs (oo.map (·.2))) nv h) (s8 : ∀ (i : Nat) (x : List Nd × Nd) (v : AV),oo[i]? = some x → hvs[i]? = some v → SlK 8 tN (ndCs x.1) v h) (s9 : SlK 8 tN (ndCs cc) cv h) (s10 : Dst q nv (hvs ++ [cv]))
    (F : ∀ i,i < h.length → i ≠ 5 → i ≠ 6 → i ≠ q → i ∉ mcP nv → h'[i]? = h[i]?) (n5 : h'[5]? = some (.cells [.mc q' (oo.length + 1 + 1) qc'])) (nq : h'[q']? = some (.cells (hvs ++ [cv] ++ [nilV] ++ qs') (some tS))) (nl : (hvs ++ [cv] ++ [nilV] ++ qs').length = qc') (nm : qc' ≤ maxLen)
    (n6 : h'[6]? = some (.cells [nv'])) (nS : SlK 8 tN (ndCs (oo.map (·.2) ++ [hd])) nv' h') (hq' : q' = q ∨ h.length ≤ q') (hn : ∀ i,i ∈ mcP nv' → (i ∈ mcP nv ∧ i ≠ q') ∨ (h.length ≤ i ∧ i ≠ q')) (h50 : oo.length + 1 ≤ 50) (hcnt : cc.length + 1 + cntL oo ≤ m) : PInv X (oo ++ [(cc,hd)]) [] m h':=by
  have hb : ∀ {i : Nat} {y : AObj},i ∈ base → i ≠ 5 → i ≠ 6 → h[i]? = some y → h'[i]? = some y:=fun {i y} hi h5 h6 hy=>by
    obtain ⟨n1,n2,n3,n4⟩:=nd_base s10 hi
    exact (F i (List.getElem?_eq_some_iff.1 hy).1 h5 h6 (Ne.symm n1) n2).trans hy
  have hlt : ∀ {e : Nat} {els : List (List AV)} {v : AV},SlK 8 e els v h → ∀ i,i ∈ mcP v → i < h.length:=fun hS i hi=>by
    obtain ⟨ys,hy⟩:=hS.lt hi
    exact (List.getElem?_eq_some_iff.1 hy).1
  have hfr : ∀ {e : Nat} {els : List (List AV)} {v : AV},v ∈ hvs ++ [cv] → SlK 8 e els v h → SlK 8 e els v h':=fun {e els v} hv hS=>hS.frame fun i hi=>by
    obtain ⟨n1,n2,n3⟩:=s10.d3 v hv i hi
    exact F i (hlt hS i hi) (fun e=>n1 (by rw [e];decide)) (fun e=>n1 (by rw [e];decide)) n2 n3
  have h9:=(List.getElem?_eq_some_iff.1 hP.a9).1
  have hnew : ∀ i,h.length ≤ i → i ∉ base:=fun i hi hm=>by
    simp only [base,List.mem_cons,List.not_mem_nil,or_false] at hm
    omega
  have hS8 : ∀ (i : Nat) (x : List Nd × Nd) (v : AV),(oo ++ [(cc,hd)])[i]? = some x → (hvs ++ [cv])[i]? = some v → SlK 8 tN (ndCs x.1) v h:=fun i x v hx hv=>by
    rcases Nat.lt_trichotomy i oo.length with hi|hi|hi
    · rw [List.getElem?_append_left hi] at hx
      rw [List.getElem?_append_left (by omega)] at hv
      exact s8 i x v hx hv
    · rw [List.getElem?_append_right (by omega),hi,Nat.sub_self] at hx
      rw [List.getElem?_append_right (by omega),hi,s5,Nat.sub_self] at hv
      simp only [List.getElem?_cons_zero,Option.some.injEq] at hx hv
      subst hx;subst hv;exact s9
    · rw [List.getElem?_eq_none (by simp;omega)] at hx;cases hx
  refine ⟨hb (by decide) (by decide) (by decide) hP.a0,hb (by decide) (by decide) (by decide) hP.a1,hb (by decide) (by decide) (by decide) hP.a2,hb (by decide) (by decide) (by decide) hP.a3,hb (by decide) (by decide) (by decide) hP.a7,hb (by decide) (by decide) (by decide) hP.a8,hb (by decide) (by decide) (by decide) hP.a9,by rw [List.length_append];exact h50,hP.lim,?_,hvs ++ [cv],nilV,nv',q',qc',qs',?_,nq,nl,nm,by simp [s5],n6,?_,?_,.inl ⟨rfl,rfl⟩,?_⟩
  · rw [cntL_app];show 0 + (cntL oo + ((cc.length + 1) + 0)) ≤ m;omega
  · rw [List.length_append];exact n5
  · rw [List.map_append];exact nS
  · intro i x v hx hv
    exact hfr (List.mem_of_getElem? hv) (hS8 i x v hx hv)
  · have hvlt : ∀ v,v ∈ hvs ++ [cv] → ∀ i,i ∈ mcP v → i < h.length:=fun v hv i hi=>by
      obtain ⟨k,hk,e⟩:=List.getElem_of_mem hv
      have hkl : k < (oo ++ [(cc,hd)]).length:=by simp at hk ⊢;omega
      exact hlt (hS8 k _ v (List.getElem?_eq_getElem hkl) (by rw [List.getElem?_eq_getElem hk,e])) i hi
    have hq9:=(List.getElem?_eq_some_iff.1 s2).1
    refine ⟨?_,fun i hi=>?_,fun v hv i hi=>?_,?_⟩
    · rcases hq' with h1|h1
      · rw [h1];exact s10.d1
      · exact hnew _ h1
    · rcases hn i hi with ⟨h1,h2⟩ | ⟨h1,h2⟩
      · exact ⟨(s10.d2 i h1).1,h2⟩
      · exact ⟨hnew i h1,h2⟩
    · rcases List.mem_append.1 hv with hv|hv
      · obtain ⟨n1,n2,n3⟩:=s10.d3 v hv i hi
        have hil:=hvlt v hv i hi
        refine ⟨n1,?_,fun hm=>?_⟩
        · rcases hq' with h1|h1
          · rw [h1];exact n2
          · omega
        · rcases hn i hm with ⟨h1,_⟩ | ⟨h1,_⟩
          · exact n3 h1
          · omega
      · rw [List.mem_singleton] at hv;subst hv;cases hi
    · rw [List.pairwise_append]
      exact ⟨s10.d4,List.pairwise_singleton _ _,fun v hv w hw i hi hm=>by rw [List.mem_singleton] at hw;subst hw;cases hm⟩
theorem pinv_cut {X : AObj} {oo : List (List Nd × Nd)} {o cc : List Nd} {hd : Nd} {m : Nat} {h h' : List AObj} {hvs qs sp0 : List AV} {cv : AV} {q qc r0 cap0 : Nat} (hP : PInv X (oo ++ [(o,hd)]) cc m h)
    (s2 : h[q]? = some (.cells (hvs ++ [cv] ++ qs) (some tS))) (s3 : (hvs ++ [cv] ++ qs).length = qc) (s4 : qc ≤ maxLen) (s5 : hvs.length = oo.length + 1)
    (u2 : oo.length + 1 ≤ cap0) (u3 : cap0 ≤ maxLen) (u4 : h[r0]? = some (.cells ((ndCs ((oo ++ [(o,hd)]).map (·.2))).flatten ++ sp0) (some tN))) (u5 : ((ndCs ((oo ++ [(o,hd)]).map (·.2))).flatten ++ sp0).length = cap0 * 8)
    (s8 : ∀ (i : Nat) (x : List Nd × Nd) (v : AV),(oo ++ [(o,hd)])[i]? = some x → hvs[i]? = some v → SlK 8 tN (ndCs x.1) v h) (s10 : Dst q (.mc r0 (oo.length + 1) cap0) (hvs ++ [cv]))
    (F : ∀ i,i < h.length → i ≠ 5 → i ≠ 6 → i ∉ mcP cv → h'[i]? = h[i]?) (n5 : h'[5]? = some (.cells [.mc q (oo.length + 1) qc])) (n6 : h'[6]? = some (.cells [.mc r0 oo.length cap0])) : PInv X oo o m h':=by
  have hb : ∀ {i : Nat} {y : AObj},i ∈ base → i ≠ 5 → i ≠ 6 → h[i]? = some y → h'[i]? = some y:=fun {i y} hi h5 h6 hy=>by
    obtain ⟨n1,n2,n3,n4⟩:=nd_base s10 hi
    exact (F i (List.getElem?_eq_some_iff.1 hy).1 h5 h6 n3).trans hy
  have hlt : ∀ {e : Nat} {els : List (List AV)} {v : AV},SlK 8 e els v h → ∀ i,i ∈ mcP v → i < h.length:=fun hS i hi=>by
    obtain ⟨ys,hy⟩:=hS.lt hi
    exact (List.getElem?_eq_some_iff.1 hy).1
  have hpw:=s10.d4
  rw [List.pairwise_append] at hpw
  have hfr : ∀ {e : Nat} {els : List (List AV)} {v : AV},v ∈ hvs → SlK 8 e els v h → SlK 8 e els v h':=fun {e els v} hv hS=>hS.frame fun i hi=>by
    obtain ⟨n1,n2,n3⟩:=s10.d3 v (by simp [hv]) i hi
    exact F i (hlt hS i hi) (fun e=>n1 (by rw [e];decide)) (fun e=>n1 (by rw [e];decide)) (hpw.2.2 v hv cv (by simp) i hi)
  obtain ⟨hvs',ov,rfl⟩ : ∃ hvs' ov,hvs = hvs' ++ [ov]:=by
    rcases List.eq_nil_or_concat hvs with e | ⟨a,b,e⟩
    · rw [e] at s5;cases s5
    · exact ⟨a,b,e.trans List.concat_eq_append⟩
  have hl' : hvs'.length = oo.length:=by simpa using s5
  have hcv : ∀ i,i ∈ mcP cv → i ∉ base ∧ i ≠ q ∧ i ∉ mcP (.mc r0 (oo.length + 1) cap0):=s10.d3 cv (by simp)
  have hq : h'[q]? = some (.cells (hvs' ++ [ov] ++ ([cv] ++ qs)) (some tS)):=by
    refine (F q (List.getElem?_eq_some_iff.1 s2).1 (fun e=>s10.d1 (by rw [e];decide)) (fun e=>s10.d1 (by rw [e];decide)) (fun hm=>(hcv q hm).2.1 rfl)).trans ?_
    rw [s2,List.append_assoc (hvs' ++ [ov])]
  have hr0 : h'[r0]? = some (.cells ((ndCs ((oo ++ [(o,hd)]).map (·.2))).flatten ++ sp0) (some tN)):=by
    obtain ⟨m1,m2⟩:=s10.d2 r0 (by rw [mcP];exact .head _)
    exact (F r0 (List.getElem?_eq_some_iff.1 u4).1 (fun e=>m1 (by rw [e];decide)) (fun e=>m1 (by rw [e];decide)) (fun hm=>(hcv r0 hm).2.2 (by rw [mcP];exact .head _))).trans u4
  have hc:=hP.cnt
  rw [cntL_app] at hc
  have hc2 : cntL [(o,hd)] = o.length + 1:=by simp [cntL]
  have hdp:=hP.deep
  rw [List.length_append] at hdp
  have hmm : ndCs ((oo ++ [(o,hd)]).map (·.2)) = ndCs (oo.map (·.2)) ++ [ndC hd]:=by rw [List.map_append,ndCs_app];rfl
  have hnl : (ndCs (oo.map (·.2))).length = oo.length:=by rw [ndCs_len,List.length_map]
  refine ⟨hb (by decide) (by decide) (by decide) hP.a0,hb (by decide) (by decide) (by decide) hP.a1,hb (by decide) (by decide) (by decide) hP.a2,hb (by decide) (by decide) (by decide) hP.a3,hb (by decide) (by decide) (by decide) hP.a7,hb (by decide) (by decide) (by decide) hP.a8,hb (by decide) (by decide) (by decide) hP.a9,by omega,hP.lim,by omega,hvs',ov,_,q,qc,[cv] ++ qs,n5,hq,by rw [← s3];simp,s4,hl',n6,?_,?_,?_,?_⟩
  · refine .inr ⟨r0,cap0,ndC hd ++ sp0,by rw [hnl],by omega,u3,?_,?_⟩
    · rw [hr0,hmm,List.flatten_append];simp
    · rw [← u5,hmm,List.flatten_append];simp
  · intro i x v hx hv
    refine hfr (List.mem_append.2 (.inl (List.mem_of_getElem? hv))) (s8 i x v ?_ ?_)
    · rw [List.getElem?_append_left (List.getElem?_eq_some_iff.1 hx).1];exact hx
    · rw [List.getElem?_append_left (List.getElem?_eq_some_iff.1 hv).1];exact hv
  · refine hfr (by simp) (s8 oo.length (o,hd) ov ?_ ?_)
    · rw [List.getElem?_append_right (Nat.le_refl _),Nat.sub_self];rfl
    · rw [List.getElem?_append_right (by omega),hl',Nat.sub_self];rfl
  · refine ⟨s10.d1,fun i hi=>s10.d2 i (by rw [mcP] at hi ⊢;exact hi),fun v hv i hi=>?_,hpw.1⟩
    obtain ⟨n1,n2,n3⟩:=s10.d3 v (List.mem_append.2 (.inl hv)) i hi
    exact ⟨n1,n2,by rw [mcP] at n3 ⊢;exact n3⟩
def resA : Res → Int
  | .ok _=>0
  | .err ln _=>(ln : Int)
def resB : Res → Int
  | .ok _=>0
  | .err _ cl=>(cl : Int)
def resE : Res → Int
  | .ok _=>0
  | .err _ _=>50
def resN : Res → List (List AV)
  | .ok l=>ndCs l
  | .err _ _=>[]
theorem resV_eq (R : Res) : resV R = .tu [.sl none 8 (resN R),i64 (resA R),i64 (resB R),i64 (resE R)]:=by cases R <;> rfl
theorem mach_c (leaf : Leaf) (c : UInt8) (r : List UInt8) (tl tc : Nat) (ts : List Tok) (cur : List Nd) (stk : List (List Nd × Nd)) (many : Nat) : mach leaf (⟨c :: r,tl,tc,false⟩ :: ts) cur stk many =
    if r = [] ∧ c ∈ cls then (match stk with|[]=>.err tl tc|(o,h) :: stk'=>if h.k = 3 + (cls.idxOf c : Nat) then mach leaf ts (o ++ [h.within cur]) stk' many else .err tl tc)
    else if 5000 < many + 1 then .err tl tc
    else if r = [] ∧ c ∈ opn then (if stk.length = 50 then .err tl tc else mach leaf ts [] ((cur,opnN c tl tc []) :: stk) (many + 1))
    else match leaf (c :: r) with
      | some x=>mach leaf ts (cur ++ [leafN x tl tc]) stk (many + 1)
      | none=>.err tl tc:=by
  rw [mach,if_neg (by simp)]
  rfl
theorem ndCs_nil {l : List Nd} (h : ndCs l = []) : l = []:=by
  have:=ndCs_len l
  rw [h] at this
  exact List.length_eq_zero_iff.1 this.symm
theorem ixN {l : List UInt8} {c : UInt8} {r : List UInt8} (h : c ∉ l) : Lib.index l (c :: r) = -1:=Lib.index_none fun j _=>by
  cases ho : Lib.occAt l (c :: r) j with
  | false=>rfl
  | true=>exact absurd (List.mem_of_getElem? (Lib.occAt_head rfl ho)) h
theorem ixb_of {l : List UInt8} {c : UInt8} (h : c ∈ l) : Lib.indexByte l c = ((l.idxOf c : Nat) : Int):=by
  induction l with
  | nil=>cases h
  | cons b l ih =>
    unfold Lib.indexByte
    by_cases e : b = c
    · subst e;simp
    · have hm : c ∈ l:=(List.mem_cons.1 h).resolve_left (Ne.symm e)
      have e1 : (b == c) = false:=by simpa using e
      have h2:=ih hm
      have hge:=Lib.indexByte_ge l c
      rw [e1,h2,List.idxOf_cons,e1]
      have e3 : (((l.idxOf c : Nat) : Int) == -1) = false:=by simp
      rw [e3];simp
theorem ix_of {l : List UInt8} {c : UInt8} (h : c ∈ l) : Lib.index l [c] = ((l.idxOf c : Nat) : Int):=(Lib.index_one l c).trans (ixb_of h)
theorem tok_no {c : UInt8} {r : List UInt8} {tl tc : Nat} {l : List UInt8} (hok : TokOK ⟨c :: r,tl,tc,false⟩) (hl : ∀ x,x ∈ l → x ∈ opn ++ cls) (h : ¬ (r = [] ∧ c ∈ l)) : Lib.index l (c :: r) = -1:=by
  refine ixN fun hm=>?_
  rcases hok with h1 | ⟨c',r',e,h2⟩
  · refine h ⟨?_,hm⟩
    simp only [List.length_cons] at h1
    exact List.length_eq_zero_iff.1 (by omega)
  · cases e;exact h2 (hl c hm)
structure PD (X : AObj) (R : Res) (h : List AObj) : Prop where
  a0 : ∃ v,h[0]? = some (.cells [v]) ∧ Le v (.sl none 8 (resN R))
  a1 : h[1]? = some (.cells [i64 (resA R)])
  a2 : h[2]? = some (.cells [i64 (resB R)])
  a3 : h[3]? = some (.cells [i64 (resE R)])
  a8 : h[8]? = some rawN
  a9 : h[9]? = some X
theorem pd_err {X X' : AObj} {H : List AObj} {ln cl : Nat} {c0 c1 c2 c3 : AObj} (h0 : H[0]? = some c0) (h1 : H[1]? = some c1) (h2 : H[2]? = some c2) (h3 : H[3]? = some c3) (h8 : H[8]? = some rawN) (h9 : H[9]? = some X) :
    PD X' (.err ln cl) (((((H.set 0 (.cells [nilV])).set 1 (.cells [i64 (ln : Int)])).set 2 (.cells [i64 (cl : Int)])).set 3 (.cells [i64 50])).set 9 X') :=
  ⟨⟨nilV,get_ne (by decide) (get_ne (by decide) (get_ne (by decide) (get_ne (by decide) (get_set h0)))),Le.nil rfl⟩,get_ne (by decide) (get_ne (by decide) (get_ne (by decide) (get_set (get_ne (by decide) h1)))),get_ne (by decide) (get_ne (by decide) (get_set (get_ne (by decide) (get_ne (by decide) h2)))),
    get_ne (by decide) (get_set (get_ne (by decide) (get_ne (by decide) (get_ne (by decide) h3)))),get_ne (by decide) (get_ne (by decide) (get_ne (by decide) (get_ne (by decide) (get_ne (by decide) h8)))),get_set (get_ne (by decide) (get_ne (by decide) (get_ne (by decide) (get_ne (by decide) h9))))⟩
theorem pd_ok {X X' : AObj} {H : List AObj} {l : List Nd} {v : AV} {c0 c1 c2 c3 : AObj} (hv : Le v (.sl none 8 (ndCs l))) (h0 : H[0]? = some c0) (h1 : H[1]? = some c1) (h2 : H[2]? = some c2) (h3 : H[3]? = some c3) (h8 : H[8]? = some rawN) (h9 : H[9]? = some X) :
    PD X' (.ok l) (((((H.set 0 (.cells [v])).set 1 (.cells [i64 0])).set 2 (.cells [i64 0])).set 3 (.cells [i64 0])).set 9 X') :=
  ⟨⟨v,get_ne (by decide) (get_ne (by decide) (get_ne (by decide) (get_ne (by decide) (get_set h0)))),hv⟩,get_ne (by decide) (get_ne (by decide) (get_ne (by decide) (get_set (get_ne (by decide) h1)))),get_ne (by decide) (get_ne (by decide) (get_set (get_ne (by decide) (get_ne (by decide) h2)))),
    get_ne (by decide) (get_set (get_ne (by decide) (get_ne (by decide) (get_ne (by decide) h3)))),get_ne (by decide) (get_ne (by decide) (get_ne (by decide) (get_ne (by decide) (get_ne (by decide) h8)))),get_set (get_ne (by decide) (get_ne (by decide) (get_ne (by decide) (get_ne (by decide) h9))))⟩
set_option maxHeartbeats 16000000 in
theorem parse_t [GlobF Tryd.prog] (hg : MaxLenOK) (hpw : PowOK) (he : ErrsOK) (s : List UInt8) (hs : s.length < 268435456) : PC Tryd.prog 9 [str s] (resV (mach leafT (toks s 1 1 false) [] [] 0)):=by
  have htk:=tokens_pc s
  refine PC.of_body Tryd.func9 Tryd.ntmps9 rfl rfl rfl ?_
  repeat' first
 | (refine m_litG rfl rfl rfl rfl rfl rfl ?_;refine WL_rowC 16 4 rfl rfl rfl (by decide) ?_;intro sp cap c1 c2 c3)
 | (apply p1 (hd:=rfl);case hop=>first|(apply D_move;rfl)|(apply D_pc htk;rfl;exact .same rfl .nil))
 | refine W_seq ?_
 | refine W_region ?_
 | refine WL_nil ?_
 | refine tn ?_
 | refine W_block ?_
 | (refine idA ?_;refine m_alloc rfl ?_)
 | (refine idS ?_;refine pS (S_store rfl rfl rfl rfl rfl rfl rfl) ?_)
  generalize hR : mach leafT (toks s 1 1 false) [] [] 0 = R
  refine W_weak (s':=⟨[(2,.bp 0 0),(3,.bp 1 0),(4,.bp 2 0),(5,.bp 3 0),(6,.bp 5 0),(7,.bp 6 0),(8,.bp 7 0),(18,.fn (.func 81) [] [.ep [str s]])],[.cells [nilV],.cells [i64 0],.cells [i64 0],.cells [i64 0],.cells ([nilV] ++ sp) (some tS),.cells [.mc 4 1 cap],.cells [nilV],.cells [i64 0]],⟨[],0⟩⟩) ⟨⟨rfl,rfl,rfl,rfl,rfl,rfl,rfl,rfl,trivial⟩,rfl,rfl⟩ ?_
  refine W_rangeX (.inl rfl) fun l1 X hX=>?_
  refine AC.mono (tokens1_ac s (by omega) l1 (fun ts h=>∃ out cur many,(PInv (X .ready none) out cur many h ∨ PRow (X .ready none) out cur many h) ∧ (∀ t,t ∈ ts → TokOK t ∧ t.s.length ≤ s.length) ∧ mach leafT ts cur out.reverse many = R) (fun h=>PD (X .done (some .ret)) R h) ?_ ?_ ?_) ?_
  · refine ⟨[],[],0,.inl ⟨rfl,rfl,rfl,rfl,rfl,rfl,rfl,by decide,by decide,by decide,[],nilV,nilV,4,cap,sp,rfl,rfl,c3.trans (Nat.mul_one _),c2,rfl,rfl,.inl ⟨rfl,rfl⟩,(fun i x v hx _=>nomatch hx),.inl ⟨rfl,rfl⟩,⟨by decide,(fun i hi=>nomatch hi),(fun v hv i hi=>by rw [List.nil_append,List.mem_singleton] at hv;subst hv;cases hi),List.pairwise_singleton _ _⟩⟩,toks_ok s.length s 1 1 false (Nat.le_refl _),hR⟩
  · rintro ts h o ⟨out,cur,many,hP,h2⟩
    exact ⟨out,cur,many,hP.imp (fun h=>h.app o) (fun h=>h.app o),h2⟩
  · rintro t ts h ⟨out,cur,many,hP,hok,hm⟩
    have pa9 : h[9]? = some (X .ready none):=by rcases hP with hP|hP <;> exact hP.a9
    have hlt : 9 < h.length:=(List.getElem?_eq_some_iff.1 pa9).1
    refine YW.round (r:=9) (pa9.trans (congrArg some (hX .ready none))) rfl rfl ?_
    repeat' first
 | refine W_region ?_
 | refine WL_nil ?_
 | (refine idA ?_;refine m_alloc rfl ?_)
 | (refine idS ?_;first|refine pS (S_store rfl rfl rfl (by (repeat first|assumption|exact get_last|(refine get_last2 ?_;focus (simp;done))|apply get_set|apply get_app|(apply get_ne;focus omega)|(apply get_ne;focus (simp only [List.length_set,List.length_append,List.length_cons,List.length_nil];omega)));done) (by rfl) (by rfl) (by rfl)) ?_)
    refine ⟨rfl,Eq.trans (b:=some (X .ready none)) (get_set' (get_app pa9) (by omega)) (congrArg some (hX .ready none)),?_⟩
    have hPb : PInv (X .busy none) out cur many (h.set 9 (X .busy none)) ∨ PRow (X .busy none) out cur many (h.set 9 (X .busy none)):=hP.imp (fun h=>h.turn _) (fun h=>h.turn _)
    have hlb : (h.set 9 (X .busy none)).length = h.length:=List.length_set
    obtain ⟨ws,tl,tc,tb⟩:=t
    refine W_weak (s':=⟨[(2,.bp 0 0),(3,.bp 1 0),(4,.bp 2 0),(5,.bp 3 0),(6,.bp 5 0),(7,.bp 6 0),(8,.bp 7 0),(9,.bp h.length 0)],h.set 9 (X .busy none) ++ [AObj.cells [str ws,i64 (tl : Int),i64 (tc : Int),.sc (.bool tb)]],⟨[],_⟩⟩) ⟨⟨rfl,rfl,rfl,rfl,rfl,rfl,rfl,rfl,trivial⟩,?_,rfl⟩ ?_
    · show _ = List.set (List.set (h ++ [_]) h.length _) 9 _
      rw [set_lastO,List.set_append_left _ _ hlt,← hX .busy none];rfl
    rw [← hlb]
    generalize h.set 9 (X .busy none) = hb at *
    refine W_norm hPb fun hb2 hlb2 hPb=>?_
    rw [← hlb2]
    have g5:=hPb.sl
    obtain ⟨_,_,_,_,_,_,s1,_⟩:=g5
    have hdp0:=hPb.deep
    have htop : IntKind.i64.wrap (((out.length + 1 : Nat) : Int) - 1) = (out.length : Int):=by rw [w64 _ (by omega) (by omega)];omega
    refine W_block ?_
    repeat' first
 | (apply p1 (hd:=rfl);case hop=>first|(apply D_assign;rfl)|(apply D_lenC;rfl)|exact D_sc (D_int rfl rfl rfl) (congrArg (Value.int IntKind.i64) htop)|exact PPOp.wk (D_build rfl) nodkX|exact D_fldB rfl)
 | refine W_seq ?_
 | refine W_region ?_
 | refine WL_nil ?_
 | refine tn ?_
 | (refine idLd ?_;first|refine p1L (D_loadB1 rfl (by (repeat first|assumption|exact get_last|(refine get_last2 ?_;focus (simp;done))|apply get_set|apply get_app|(apply get_ne;focus omega)|(apply get_ne;focus (simp only [List.length_set,List.length_append,List.length_cons,List.length_nil];omega)));done) (by rfl)) rfl ?_)
 | (refine idA ?_;refine m_alloc rfl ?_)
 | (refine idS ?_;first|refine pS (S_store rfl rfl rfl (by (repeat first|assumption|exact get_last|(refine get_last2 ?_;focus (simp;done))|apply get_set|apply get_app|(apply get_ne;focus omega)|(apply get_ne;focus (simp only [List.length_set,List.length_append,List.length_cons,List.length_nil];omega)));done) (by rfl) (by rfl) (by rfl)) ?_)
    refine W_weak (s':=⟨[(2,.bp 0 0),(3,.bp 1 0),(4,.bp 2 0),(5,.bp 3 0),(6,.bp 5 0),(7,.bp 6 0),(8,.bp 7 0),(9,.bp hb2.length 0),(10,i64 (out.length : Int)),(11,.bp (hb2.length + 1) 0)],hb2 ++ [AObj.cells [str ws,i64 (tl : Int),i64 (tc : Int),.sc (.bool tb)]] ++ [.cells [i64 0,i64 0,i64 0,str [],str [],.sl none 8 [],i64 (tl : Int),i64 (tc : Int)]],⟨[],_⟩⟩) ⟨⟨rfl,rfl,rfl,rfl,rfl,rfl,rfl,rfl,rfl,?_,trivial⟩,?_,rfl⟩ ?_
    · exact congrArg (fun n=>some (AV.bp n 0)) (by simp)
    · show _ = List.set _ _ _
      rw [set_lastO];rfl
    have hPH:=(hPb.app (AObj.cells [str ws,i64 (tl : Int),i64 (tc : Int),.sc (.bool tb)])).app (AObj.cells [i64 0,i64 0,i64 0,str [],str [],.sl none 8 [],i64 (tl : Int),i64 (tc : Int)])
    have hT : (hb2 ++ [AObj.cells [str ws,i64 (tl : Int),i64 (tc : Int),.sc (.bool tb)]] ++ [AObj.cells [i64 0,i64 0,i64 0,str [],str [],.sl none 8 [],i64 (tl : Int),i64 (tc : Int)]])[hb2.length]? = some (.cells [str ws,i64 (tl : Int),i64 (tc : Int),.sc (.bool tb)]):=get_app get_last
    have hN : (hb2 ++ [AObj.cells [str ws,i64 (tl : Int),i64 (tc : Int),.sc (.bool tb)]] ++ [AObj.cells [i64 0,i64 0,i64 0,str [],str [],.sl none 8 [],i64 (tl : Int),i64 (tc : Int)]])[hb2.length + 1]? = some (.cells [i64 0,i64 0,i64 0,str [],str [],.sl none 8 [],i64 (tl : Int),i64 (tc : Int)]):=by
      have:=get_last (h:=hb2 ++ [AObj.cells [str ws,i64 (tl : Int),i64 (tc : Int),.sc (.bool tb)]]) (x:=AObj.cells [i64 0,i64 0,i64 0,str [],str [],.sl none 8 [],i64 (tl : Int),i64 (tc : Int)])
      simpa using this
    have hHl : (hb2 ++ [AObj.cells [str ws,i64 (tl : Int),i64 (tc : Int),.sc (.bool tb)]] ++ [AObj.cells [i64 0,i64 0,i64 0,str [],str [],.sl none 8 [],i64 (tl : Int),i64 (tc : Int)]]).length = hb2.length + 2:=by simp
    generalize hb2 ++ [AObj.cells [str ws,i64 (tl : Int),i64 (tc : Int),.sc (.bool tb)]] ++ [AObj.cells [i64 0,i64 0,i64 0,str [],str [],.sl none 8 [],i64 (tl : Int),i64 (tc : Int)]] = H at *
    have hbl : 9 < hb2.length:=by rw [hlb2,hlb];exact hlt
    generalize hb2.length = p at *
    clear hPb hP s1 hlb hlb2 hlt htop pa9
    obtain ⟨hvs,cv,nv,q,qc,qs,s1,s2,s3,s4,s5,s6,s7,s8,s9,s10⟩:=hPH.sl
    have f0:=hPH.a0
    have f1:=hPH.a1
    have f2:=hPH.a2
    have f3:=hPH.a3
    have f7:=hPH.a7
    have f8:=hPH.a8
    have f9:=hPH.a9
    have hdp:=hPH.deep
    have hqp:=ne_ty s2 hT
    have hqn:=ne_ty s2 hN
    have hndE : [p,0,1,2,3].Nodup:=List.nodup_cons.2 ⟨by simp only [List.mem_cons,List.not_mem_nil,or_false,not_or];omega,by decide⟩
    obtain ⟨hok1,hok2⟩:=hok _ (.head _)
    have hok' : ∀ t,t ∈ ts → TokOK t ∧ t.s.length ≤ s.length:=fun t ht=>hok t (.tail _ ht)
    simp only at hok1 hok2
    clear hok
    cases tb with
    | true =>
      simp only [mach,true_or,if_true] at hm
      repeat' first
 | (apply p1 (hd:=rfl);case hop=>first|(apply D_move;rfl)|(apply D_assign;rfl)|(apply D_pickT;rfl;rfl)|(apply D_str;rfl;rfl;rfl)|exact D_fldB rfl)
 | refine W_seq ?_
 | refine W_region ?_
 | (refine idC ?_;refine cs rfl (fun _=>?_) (fun _=>?_))
 | refine WL_nil ?_
 | (refine idG ?_;first|refine g0f rfl rfl rfl ?_|refine g0u rfl rfl rfl ?_)
 | refine tn ?_
 | refine W_block ?_
 | (refine idLd ?_;first|refine p1L (D_loadB1 rfl (by (repeat first|assumption|exact get_last|(refine get_last2 ?_;focus (simp;done))|apply get_set|apply get_app|(apply get_ne;focus omega)|(apply get_ne;focus (simp only [List.length_set,List.length_append,List.length_cons,List.length_nil];omega)));done) (by rfl)) rfl ?_)
 | (refine idW ?_;refine W_draw0 rfl ?_)
 | (apply d1 (hd:=rfl);case hop=>first|exact D_fldB rfl)
 | (refine idDn ?_;first|refine dS (S_store rfl rfl rfl (by (repeat first|assumption|exact get_last|(refine get_last2 ?_;focus (simp;done))|apply get_set|apply get_app|(apply get_ne;focus omega)|(apply get_ne;focus (simp only [List.length_set,List.length_append,List.length_cons,List.length_nil];omega)));done) (by rfl) (by rfl) (by rfl)) (bltL (by (repeat first|assumption|exact get_last|(refine get_last2 ?_;focus (simp;done))|apply get_set|apply get_app|(apply get_ne;focus omega)|(apply get_ne;focus (simp only [List.length_set,List.length_append,List.length_cons,List.length_nil];omega)));done)) ?_|refine dL _ (fun hp' hs=>D_loadB1 rfl (hs.trans (by (repeat first|assumption|exact get_last|(refine get_last2 ?_;focus (simp;done))|apply get_set|apply get_app|(apply get_ne;focus omega)|(apply get_ne;focus (simp only [List.length_set,List.length_append,List.length_cons,List.length_nil];omega)));done)) (by rfl)) rfl ?_)
      all_goals first
        | contradiction
        | (exfalso;omega)
        | skip
      refine WD_nilR [p,0,1,2,3] [([],none),([0],none),([],none),([0],none),([1],some 1),([2],some 2),([3],some 3),([4],some 4)] hndE rfl rfl (by decide +kernel) ?_
      repeat' first
 | refine tn ?_
 | refine tr ?_
 | refine br ?_
 | (refine W_ret ?_)
      refine ⟨rfl,⟨.busy,none,Eq.trans (b:=some (X .busy none)) (by (repeat first|assumption|exact get_last|(refine get_last2 ?_;focus (simp;done))|apply get_set|apply get_app|(apply get_ne;focus omega)|(apply get_ne;focus (simp only [List.length_set,List.length_append,List.length_cons,List.length_nil];omega)));done) (congrArg some (hX _ _))⟩,(fun e=>nomatch e),fun _=>?_⟩
      rw [← hX .done (some .ret),← hm]
      exact pd_err (by (repeat first|assumption|exact get_last|(refine get_last2 ?_;focus (simp;done))|apply get_set|apply get_app|(apply get_ne;focus omega)|(apply get_ne;focus (simp only [List.length_set,List.length_append,List.length_cons,List.length_nil];omega)));done) (by (repeat first|assumption|exact get_last|(refine get_last2 ?_;focus (simp;done))|apply get_set|apply get_app|(apply get_ne;focus omega)|(apply get_ne;focus (simp only [List.length_set,List.length_append,List.length_cons,List.length_nil];omega)));done) (by (repeat first|assumption|exact get_last|(refine get_last2 ?_;focus (simp;done))|apply get_set|apply get_app|(apply get_ne;focus omega)|(apply get_ne;focus (simp only [List.length_set,List.length_append,List.length_cons,List.length_nil];omega)));done) (by (repeat first|assumption|exact get_last|(refine get_last2 ?_;focus (simp;done))|apply get_set|apply get_app|(apply get_ne;focus omega)|(apply get_ne;focus (simp only [List.length_set,List.length_append,List.length_cons,List.length_nil];omega)));done) (by (repeat first|assumption|exact get_last|(refine get_last2 ?_;focus (simp;done))|apply get_set|apply get_app|(apply get_ne;focus omega)|(apply get_ne;focus (simp only [List.length_set,List.length_append,List.length_cons,List.length_nil];omega)));done) (by (repeat first|assumption|exact get_last|(refine get_last2 ?_;focus (simp;done))|apply get_set|apply get_app|(apply get_ne;focus omega)|(apply get_ne;focus (simp only [List.length_set,List.length_append,List.length_cons,List.length_nil];omega)));done)
    | false =>
      cases ws with
      | nil =>
        by_cases ho : out = []
        · have hol : out.length = 0:=by rw [ho];rfl
          have hv0 : hvs = []:=List.length_eq_zero_iff.1 (s5.trans hol)
          have hmB : mach leafT (⟨[],tl,tc,false⟩ :: ts) cur out.reverse many = .ok cur:=by rw [ho];simp [mach]
          rw [hmB] at hm
          rw [hv0] at s2
          obtain ⟨_,_,r0,_⟩:=nd_base s10 (i:=0) (by decide)
          obtain ⟨_,_,r1,_⟩:=nd_base s10 (i:=1) (by decide)
          obtain ⟨_,_,r2,_⟩:=nd_base s10 (i:=2) (by decide)
          obtain ⟨_,_,r3,_⟩:=nd_base s10 (i:=3) (by decide)
          obtain ⟨_,_,r8,_⟩:=nd_base s10 (i:=8) (by decide)
          obtain ⟨_,_,r9,_⟩:=nd_base s10 (i:=9) (by decide)
          repeat' first
 | (refine idLdL ?_;refine p1L (D_loadB1 (r:=q) rfl s2 (by rfl)) rfl ?_;refine WL_frzK 50 tN rfl s9 (ndCs_w cur) ?_;intro h' hh1 hh2;have g0:=(hh2 0 r0).trans f0;have g1:=(hh2 1 r1).trans f1;have g2:=(hh2 2 r2).trans f2;have g3:=(hh2 3 r3).trans f3;have g8:=(hh2 8 r8).trans f8;have g9:=(hh2 9 r9).trans f9)
 | (apply p1 (hd:=rfl);case hop=>first|(apply D_move;rfl)|(apply D_assign;rfl)|(apply D_ixC;rfl;rfl;all_goals omega)|(apply D_pickT;rfl;rfl)|(apply D_pickF;rfl;rfl)|(apply D_int;rfl;rfl;rfl)|(apply D_str;rfl;rfl;rfl)|exact D_fldB rfl)
 | refine W_seq ?_
 | refine W_region ?_
 | (refine idC ?_;first|refine c0 rfl ?_|refine cs rfl (fun _=>?_) (fun _=>?_))
 | refine WL_nil ?_
 | (refine idG ?_;first|refine g0t rfl rfl rfl ?_|refine gr rfl rfl ?_|refine gs rfl rfl (fun _=>?_) (fun _=>?_))
 | refine tn ?_
 | refine tr ?_
 | refine br ?_
 | refine W_block ?_
 | refine W_ret ?_
 | (refine idLd ?_;first|refine p1L (D_loadB1 rfl (by (repeat first|assumption|exact get_last|(refine get_last2 ?_;focus (simp;done))|apply get_set|apply get_app|(apply get_ne;focus omega)|(apply get_ne;focus (simp only [List.length_set,List.length_append,List.length_cons,List.length_nil];omega)));done) (by rfl)) rfl ?_)
 | (refine idS ?_;first|refine pS (S_store rfl rfl rfl (by (repeat first|assumption|exact get_last|(refine get_last2 ?_;focus (simp;done))|apply get_set|apply get_app|(apply get_ne;focus omega)|(apply get_ne;focus (simp only [List.length_set,List.length_append,List.length_cons,List.length_nil];omega)));done) (by rfl) (by rfl) (by rfl)) ?_)
 | (refine idW ?_;refine W_draw0 rfl ?_)
 | (apply d1 (hd:=rfl);case hop=>first|exact D_fldB rfl)
 | (refine idDn ?_;first|refine dS (S_store rfl rfl rfl (by (repeat first|assumption|exact get_last|(refine get_last2 ?_;focus (simp;done))|apply get_set|apply get_app|(apply get_ne;focus omega)|(apply get_ne;focus (simp only [List.length_set,List.length_append,List.length_cons,List.length_nil];omega)));done) (by rfl) (by rfl) (by rfl)) (bltL (by (repeat first|assumption|exact get_last|(refine get_last2 ?_;focus (simp;done))|apply get_set|apply get_app|(apply get_ne;focus omega)|(apply get_ne;focus (simp only [List.length_set,List.length_append,List.length_cons,List.length_nil];omega)));done)) ?_|refine dL _ (fun hp' hs=>D_loadB1 rfl (hs.trans (by (repeat first|assumption|exact get_last|(refine get_last2 ?_;focus (simp;done))|apply get_set|apply get_app|(apply get_ne;focus omega)|(apply get_ne;focus (simp only [List.length_set,List.length_append,List.length_cons,List.length_nil];omega)));done)) (by rfl)) rfl ?_)
          all_goals first
            | contradiction
            | (exfalso;omega)
            | skip
          refine ⟨rfl,⟨.busy,none,Eq.trans (b:=some (X .busy none)) (by (repeat first|assumption|exact get_last|(refine get_last2 ?_;focus (simp;done))|apply get_set|apply get_app|(apply get_ne;focus omega)|(apply get_ne;focus (simp only [List.length_set,List.length_append,List.length_cons,List.length_nil];omega)));done) (congrArg some (hX _ _))⟩,(fun e=>nomatch e),fun _=>?_⟩
          rw [← hX .done (some .ret),← hm]
          exact pd_ok (Le.of_eq rfl) (by (repeat first|assumption|exact get_last|(refine get_last2 ?_;focus (simp;done))|apply get_set|apply get_app|(apply get_ne;focus omega)|(apply get_ne;focus (simp only [List.length_set,List.length_append,List.length_cons,List.length_nil];omega)));done) (by (repeat first|assumption|exact get_last|(refine get_last2 ?_;focus (simp;done))|apply get_set|apply get_app|(apply get_ne;focus omega)|(apply get_ne;focus (simp only [List.length_set,List.length_append,List.length_cons,List.length_nil];omega)));done) (by (repeat first|assumption|exact get_last|(refine get_last2 ?_;focus (simp;done))|apply get_set|apply get_app|(apply get_ne;focus omega)|(apply get_ne;focus (simp only [List.length_set,List.length_append,List.length_cons,List.length_nil];omega)));done) (by (repeat first|assumption|exact get_last|(refine get_last2 ?_;focus (simp;done))|apply get_set|apply get_app|(apply get_ne;focus omega)|(apply get_ne;focus (simp only [List.length_set,List.length_append,List.length_cons,List.length_nil];omega)));done) (by (repeat first|assumption|exact get_last|(refine get_last2 ?_;focus (simp;done))|apply get_set|apply get_app|(apply get_ne;focus omega)|(apply get_ne;focus (simp only [List.length_set,List.length_append,List.length_cons,List.length_nil];omega)));done) (by (repeat first|assumption|exact get_last|(refine get_last2 ?_;focus (simp;done))|apply get_set|apply get_app|(apply get_ne;focus omega)|(apply get_ne;focus (simp only [List.length_set,List.length_append,List.length_cons,List.length_nil];omega)));done)
        · have hol : 0 < out.length:=List.length_pos_iff.2 ho
          have hm2 : mach leafT (⟨[],tl,tc,false⟩ :: ts) cur out.reverse many = .err tl tc:=by simp [mach,ho]
          rw [hm2] at hm
          repeat' first
 | (apply p1 (hd:=rfl);case hop=>first|(apply D_move;rfl)|(apply D_assign;rfl)|(apply D_pickT;rfl;rfl)|(apply D_pickF;rfl;rfl)|(apply D_int;rfl;rfl;rfl)|(apply D_str;rfl;rfl;rfl)|exact D_fldB rfl)
 | refine W_seq ?_
 | refine W_region ?_
 | (refine idC ?_;first|refine c0 rfl ?_|refine cs rfl (fun _=>?_) (fun _=>?_))
 | refine WL_nil ?_
 | (refine idG ?_;first|refine g0t rfl rfl rfl ?_|refine gr rfl rfl ?_|refine gs rfl rfl (fun _=>?_) (fun _=>?_))
 | refine tn ?_
 | refine W_block ?_
 | (refine idLd ?_;first|refine p1L (D_loadB1 rfl (by (repeat first|assumption|exact get_last|(refine get_last2 ?_;focus (simp;done))|apply get_set|apply get_app|(apply get_ne;focus omega)|(apply get_ne;focus (simp only [List.length_set,List.length_append,List.length_cons,List.length_nil];omega)));done) (by rfl)) rfl ?_)
 | (refine idW ?_;refine W_draw0 rfl ?_)
 | (apply d1 (hd:=rfl);case hop=>first|exact D_fldB rfl)
 | (refine idDn ?_;first|refine dS (S_store rfl rfl rfl (by (repeat first|assumption|exact get_last|(refine get_last2 ?_;focus (simp;done))|apply get_set|apply get_app|(apply get_ne;focus omega)|(apply get_ne;focus (simp only [List.length_set,List.length_append,List.length_cons,List.length_nil];omega)));done) (by rfl) (by rfl) (by rfl)) (bltL (by (repeat first|assumption|exact get_last|(refine get_last2 ?_;focus (simp;done))|apply get_set|apply get_app|(apply get_ne;focus omega)|(apply get_ne;focus (simp only [List.length_set,List.length_append,List.length_cons,List.length_nil];omega)));done)) ?_|refine dL _ (fun hp' hs=>D_loadB1 rfl (hs.trans (by (repeat first|assumption|exact get_last|(refine get_last2 ?_;focus (simp;done))|apply get_set|apply get_app|(apply get_ne;focus omega)|(apply get_ne;focus (simp only [List.length_set,List.length_append,List.length_cons,List.length_nil];omega)));done)) (by rfl)) rfl ?_)
          all_goals first
            | contradiction
            | (exfalso;omega)
            | skip
          refine WD_nilR [p,0,1,2,3] [([],none),([0],none),([],none),([0],none),([1],some 1),([2],some 2),([3],some 3),([4],some 4)] hndE rfl rfl (by decide +kernel) ?_
          repeat' first
 | refine tn ?_
 | refine tr ?_
 | refine br ?_
 | (refine W_ret ?_)
          refine ⟨rfl,⟨.busy,none,Eq.trans (b:=some (X .busy none)) (by (repeat first|assumption|exact get_last|(refine get_last2 ?_;focus (simp;done))|apply get_set|apply get_app|(apply get_ne;focus omega)|(apply get_ne;focus (simp only [List.length_set,List.length_append,List.length_cons,List.length_nil];omega)));done) (congrArg some (hX _ _))⟩,(fun e=>nomatch e),fun _=>?_⟩
          rw [← hX .done (some .ret),← hm]
          exact pd_err (by (repeat first|assumption|exact get_last|(refine get_last2 ?_;focus (simp;done))|apply get_set|apply get_app|(apply get_ne;focus omega)|(apply get_ne;focus (simp only [List.length_set,List.length_append,List.length_cons,List.length_nil];omega)));done) (by (repeat first|assumption|exact get_last|(refine get_last2 ?_;focus (simp;done))|apply get_set|apply get_app|(apply get_ne;focus omega)|(apply get_ne;focus (simp only [List.length_set,List.length_append,List.length_cons,List.length_nil];omega)));done) (by (repeat first|assumption|exact get_last|(refine get_last2 ?_;focus (simp;done))|apply get_set|apply get_app|(apply get_ne;focus omega)|(apply get_ne;focus (simp only [List.length_set,List.length_append,List.length_cons,List.length_nil];omega)));done) (by (repeat first|assumption|exact get_last|(refine get_last2 ?_;focus (simp;done))|apply get_set|apply get_app|(apply get_ne;focus omega)|(apply get_ne;focus (simp only [List.length_set,List.length_append,List.length_cons,List.length_nil];omega)));done) (by (repeat first|assumption|exact get_last|(refine get_last2 ?_;focus (simp;done))|apply get_set|apply get_app|(apply get_ne;focus omega)|(apply get_ne;focus (simp only [List.length_set,List.length_append,List.length_cons,List.length_nil];omega)));done) (by (repeat first|assumption|exact get_last|(refine get_last2 ?_;focus (simp;done))|apply get_set|apply get_app|(apply get_ne;focus omega)|(apply get_ne;focus (simp only [List.length_set,List.length_append,List.length_cons,List.length_nil];omega)));done)
      | cons c r =>
        repeat' first
 | (apply p1 (hd:=rfl);case hop=>first|(apply D_move;rfl)|(apply D_assign;rfl)|(apply D_pickT;rfl;rfl)|(apply D_pickF;rfl;rfl)|(apply D_int;rfl;rfl;rfl)|(apply D_str;rfl;rfl;rfl)|exact D_fldB rfl)
 | refine W_seq ?_
 | refine W_region ?_
 | (refine idC ?_;first|refine c0 rfl ?_|refine cs rfl (fun _=>?_) (fun _=>?_))
 | refine WL_nil ?_
 | (refine idG ?_;first|refine g0t rfl rfl rfl ?_|refine gr rfl rfl ?_|refine gs rfl rfl (fun _=>?_) (fun _=>?_))
 | refine tn ?_
 | refine W_block ?_
 | (refine idLd ?_;first|refine p1L (D_loadB1 rfl (by (repeat first|assumption|exact get_last|(refine get_last2 ?_;focus (simp;done))|apply get_set|apply get_app|(apply get_ne;focus omega)|(apply get_ne;focus (simp only [List.length_set,List.length_append,List.length_cons,List.length_nil];omega)));done) (by rfl)) rfl ?_)
 | (refine idW ?_;refine W_draw0 rfl ?_)
 | (apply d1 (hd:=rfl);case hop=>first|exact D_fldB rfl)
 | (refine idDn ?_;first|refine dS (S_store rfl rfl rfl (by (repeat first|assumption|exact get_last|(refine get_last2 ?_;focus (simp;done))|apply get_set|apply get_app|(apply get_ne;focus omega)|(apply get_ne;focus (simp only [List.length_set,List.length_append,List.length_cons,List.length_nil];omega)));done) (by rfl) (by rfl) (by rfl)) (bltL (by (repeat first|assumption|exact get_last|(refine get_last2 ?_;focus (simp;done))|apply get_set|apply get_app|(apply get_ne;focus omega)|(apply get_ne;focus (simp only [List.length_set,List.length_append,List.length_cons,List.length_nil];omega)));done)) ?_|refine dL _ (fun hp' hs=>D_loadB1 rfl (hs.trans (by (repeat first|assumption|exact get_last|(refine get_last2 ?_;focus (simp;done))|apply get_set|apply get_app|(apply get_ne;focus omega)|(apply get_ne;focus (simp only [List.length_set,List.length_append,List.length_cons,List.length_nil];omega)));done)) (by rfl)) rfl ?_)
        all_goals first
          | contradiction
          | (exfalso;omega)
          | skip
        refine WL_weak (s':=⟨[(2,.bp 0 0),(3,.bp 1 0),(4,.bp 2 0),(5,.bp 3 0),(6,.bp 5 0),(7,.bp 6 0),(8,.bp 7 0),(9,.bp p 0),(10,i64 (out.length : Int)),(11,.bp (p + 1) 0),(53,str (c :: r))],H,⟨[],_⟩⟩) ⟨⟨rfl,rfl,rfl,rfl,rfl,rfl,rfl,rfl,rfl,rfl,rfl,trivial⟩,rfl,rfl⟩ ?_
        have hcont:=contains_pc hg [41,93,125] (c :: r) (by decide)
        have hidxc:=index_pc hg [41,93,125] (c :: r) (by decide)
        have hidxo:=index_pc hg [40,91,123] (c :: r) (by decide)
        rw [mach_c] at hm
        by_cases hclm : r = [] ∧ c ∈ cls
        · obtain ⟨rfl,hcm⟩:=hclm
          rw [if_pos ⟨rfl,hcm⟩] at hm
          rw [ix_of hcm] at hcont hidxc
          rw [show decide (0 ≤ ((cls.idxOf c : Nat) : Int)) = true by simp] at hcont
          have hk3 : cls.idxOf c < 3:=List.idxOf_lt_length_of_mem hcm
          generalize cls.idxOf c = kx at *
          have hw3 : IntKind.i64.wrap (3 + (kx : Int)) = 3 + (kx : Int):=by rw [w64 _ (by omega) (by omega)]
          rcases List.eq_nil_or_concat out with ho | ⟨o',⟨o,hd⟩,ho⟩
          · have hol : out.length = 0:=by rw [ho];rfl
            rw [ho] at hm
            simp only [List.reverse_nil] at hm
            repeat' first
 | (apply p1 (hd:=rfl);case hop=>first|(apply D_move;rfl)|(apply D_assign;rfl)|(apply D_pc hcont;rfl;exact .same rfl (.same rfl .nil))|(apply D_pc hidxc;rfl;exact .same rfl (.same rfl .nil))|(apply D_pickT;rfl;rfl)|(apply D_int;rfl;rfl;rfl)|exact D_fldB rfl)
 | refine W_seq ?_
 | refine W_region ?_
 | (refine idC ?_;refine cs rfl (fun _=>?_) (fun _=>?_))
 | refine WL_nil ?_
 | (refine idG ?_;first|refine g0f rfl rfl rfl ?_|refine gr rfl rfl ?_|refine gs rfl rfl (fun _=>?_) (fun _=>?_))
 | refine tn ?_
 | refine bn ?_
 | refine W_skip ?_
 | (refine idLd ?_;first|refine p1L (D_loadB1 rfl (by (repeat first|assumption|exact get_last|(refine get_last2 ?_;focus (simp;done))|apply get_set|apply get_app|(apply get_ne;focus omega)|(apply get_ne;focus (simp only [List.length_set,List.length_append,List.length_cons,List.length_nil];omega)));done) (by rfl)) rfl ?_)
 | (refine idS ?_;first|refine pS (S_store rfl rfl rfl (by (repeat first|assumption|exact get_last|(refine get_last2 ?_;focus (simp;done))|apply get_set|apply get_app|(apply get_ne;focus omega)|(apply get_ne;focus (simp only [List.length_set,List.length_append,List.length_cons,List.length_nil];omega)));done) (by rfl) (by rfl) (by rfl)) ?_)
 | (refine idW ?_;refine W_draw0 rfl ?_)
 | (apply d1 (hd:=rfl);case hop=>first|exact D_fldB rfl)
 | (refine idDn ?_;first|refine dS (S_store rfl rfl rfl (by (repeat first|assumption|exact get_last|(refine get_last2 ?_;focus (simp;done))|apply get_set|apply get_app|(apply get_ne;focus omega)|(apply get_ne;focus (simp only [List.length_set,List.length_append,List.length_cons,List.length_nil];omega)));done) (by rfl) (by rfl) (by rfl)) (bltL (by (repeat first|assumption|exact get_last|(refine get_last2 ?_;focus (simp;done))|apply get_set|apply get_app|(apply get_ne;focus omega)|(apply get_ne;focus (simp only [List.length_set,List.length_append,List.length_cons,List.length_nil];omega)));done)) ?_|refine dL _ (fun hp' hs=>D_loadB1 rfl (hs.trans (by (repeat first|assumption|exact get_last|(refine get_last2 ?_;focus (simp;done))|apply get_set|apply get_app|(apply get_ne;focus omega)|(apply get_ne;focus (simp only [List.length_set,List.length_append,List.length_cons,List.length_nil];omega)));done)) (by rfl)) rfl ?_)
            all_goals first
              | contradiction
              | (exfalso;omega)
              | skip
            refine WD_nilR [p,0,1,2,3] [([],none),([0],none),([],none),([0],none),([1],some 1),([2],some 2),([3],some 3),([4],some 4)] hndE rfl rfl (by decide +kernel) ?_
            repeat' first
 | refine tn ?_
 | refine tr ?_
 | refine br ?_
 | (refine W_ret ?_)
            refine ⟨rfl,⟨.busy,none,Eq.trans (b:=some (X .busy none)) (by (repeat first|assumption|exact get_last|(refine get_last2 ?_;focus (simp;done))|apply get_set|apply get_app|(apply get_ne;focus omega)|(apply get_ne;focus (simp only [List.length_set,List.length_append,List.length_cons,List.length_nil];omega)));done) (congrArg some (hX _ _))⟩,(fun e=>nomatch e),fun _=>?_⟩
            rw [← hX .done (some .ret),← hm]
            exact pd_err (by (repeat first|assumption|exact get_last|(refine get_last2 ?_;focus (simp;done))|apply get_set|apply get_app|(apply get_ne;focus omega)|(apply get_ne;focus (simp only [List.length_set,List.length_append,List.length_cons,List.length_nil];omega)));done) (by (repeat first|assumption|exact get_last|(refine get_last2 ?_;focus (simp;done))|apply get_set|apply get_app|(apply get_ne;focus omega)|(apply get_ne;focus (simp only [List.length_set,List.length_append,List.length_cons,List.length_nil];omega)));done) (by (repeat first|assumption|exact get_last|(refine get_last2 ?_;focus (simp;done))|apply get_set|apply get_app|(apply get_ne;focus omega)|(apply get_ne;focus (simp only [List.length_set,List.length_append,List.length_cons,List.length_nil];omega)));done) (by (repeat first|assumption|exact get_last|(refine get_last2 ?_;focus (simp;done))|apply get_set|apply get_app|(apply get_ne;focus omega)|(apply get_ne;focus (simp only [List.length_set,List.length_append,List.length_cons,List.length_nil];omega)));done) (by (repeat first|assumption|exact get_last|(refine get_last2 ?_;focus (simp;done))|apply get_set|apply get_app|(apply get_ne;focus omega)|(apply get_ne;focus (simp only [List.length_set,List.length_append,List.length_cons,List.length_nil];omega)));done) (by (repeat first|assumption|exact get_last|(refine get_last2 ?_;focus (simp;done))|apply get_set|apply get_app|(apply get_ne;focus omega)|(apply get_ne;focus (simp only [List.length_set,List.length_append,List.length_cons,List.length_nil];omega)));done)
          · rw [List.concat_eq_append] at ho
            have hlen : out.length = o'.length + 1:=by rw [ho];simp
            have htop1 : IntKind.i64.wrap ((out.length : Int) - 1) = (o'.length : Int):=by rw [w64 _ (by omega) (by omega)];omega
            have hmap : ndCs (out.map (·.2)) = ndCs (o'.map (·.2)) ++ [ndC hd]:=by rw [ho,List.map_append,ndCs_app];rfl
            have hmlen : (ndCs (out.map (·.2))).length = out.length:=by rw [ndCs_len,List.length_map]
            rcases s7 with ⟨_,e⟩ | ⟨r0,cap0,sp0,rfl,u2,u3,u4,u5⟩
            · rw [e] at hmlen;simp at hmlen;omega
            rw [hmlen] at s6 u2
            have hr0l : r0 < H.length:=(List.getElem?_eq_some_iff.1 u4).1
            have hmw : ∀ e,e ∈ ndCs (out.map (·.2)) → e.length = 8:=ndCs_w _
            have hmat : (ndCs (out.map (·.2)))[o'.length]? = some (ndC hd):=by rw [hmap,List.getElem?_append_right (by rw [ndCs_len,List.length_map];exact Nat.le_refl _),ndCs_len,List.length_map,Nat.sub_self];rfl
            have hmfl : (ndCs (out.map (·.2))).flatten.length = out.length * 8:=by rw [flat_len hmw,hmlen]
            obtain ⟨hk,hvk,hvn,hvs',hss,hkids,hln,hcl⟩:=hd
            have hkd : ((ndCs (out.map (·.2))).flatten ++ sp0)[((o'.length : Nat) : Int).toNat * 8 + 0]? = some (i64 hk):=by
              rw [List.getElem?_append_left (by rw [hmfl];show o'.length * 8 + 0 < _;omega)]
              exact (flat_ix hmw hmat (by decide)).trans (by unfold ndC;rfl)
            rw [ho] at hm
            simp only [List.reverse_append,List.reverse_cons,List.reverse_nil,List.nil_append,List.cons_append] at hm
            by_cases hkk : hk = 3 + (kx : Int)
            · rw [if_pos (show Nd.k (.mk hk hvk hvn hvs' hss hkids hln hcl) = 3 + (kx : Int) from hkk)] at hm
              have hne : ∀ {e : Nat} {els : List (List AV)} {v : AV},SlK 8 e els v H → p + 1 ∉ mcP v:=fun hS hm=>by
                obtain ⟨ys,hy⟩:=hS.lt hm
                exact ne_ty hy hN rfl
              have hixc : (hvs ++ [cv] ++ qs)[((out.length : Nat) : Int).toNat * 1]? = some cv:=by
                show (hvs ++ [cv] ++ qs)[out.length * 1]? = some cv
                rw [Nat.mul_one,List.append_assoc,List.getElem?_append_right (by omega),s5,Nat.sub_self];rfl
              have hld1 : ((o'.length : Nat) : Int).toNat * 8 + 8 ≤ ((ndCs (out.map (·.2))).flatten ++ sp0).length:=by
                rw [List.length_append,hmfl];show o'.length * 8 + 8 ≤ _;omega
              have hld2 : (((ndCs (out.map (·.2))).flatten ++ sp0).drop (((o'.length : Nat) : Int).toNat * 8)).take 8 = [i64 hk,i64 hvk,i64 hvn,str hvs',str hss,.sl none 8 (ndCs hkids),i64 hln,i64 hcl]:=by
                show (((ndCs (out.map (·.2))).flatten ++ sp0).drop (o'.length * 8)).take 8 = _
                have h1 : (ndCs (o'.map (·.2))).flatten.length = o'.length * 8:=by rw [flat_len (ndCs_w _),ndCs_len,List.length_map]
                rw [hmap,List.flatten_append,List.append_assoc,List.drop_left' h1]
                simp [ndC]
              have hs9 : SlK 8 tN (ndCs cur) cv (H.set (p + 1) (.cells [i64 hk,i64 hvk,i64 hvn,str hvs',str hss,.sl none 8 (ndCs hkids),i64 hln,i64 hcl])):=s9.set (hne s9) _
              have hp1 : p + 1 ∉ mcP cv:=hne s9
              repeat' first
 | (refine idLdL ?_;refine p1L (D_loadB1 (r:=r0) rfl (by (repeat first|assumption|exact get_last|(refine get_last2 ?_;focus (simp;done))|apply get_set|apply get_app|(apply get_ne;focus omega)|(apply get_ne;focus (simp only [List.length_set,List.length_append,List.length_cons,List.length_nil];omega)));done) hkd) rfl ?_)
 | (refine idLdL ?_;refine p1L (D_loadBAe (r:=r0) rfl (by (repeat first|assumption|exact get_last|(refine get_last2 ?_;focus (simp;done))|apply get_set|apply get_app|(apply get_ne;focus omega)|(apply get_ne;focus (simp only [List.length_set,List.length_append,List.length_cons,List.length_nil];omega)));done) hld1 hld2) rfl ?_)
 | (refine idLdL ?_;refine p1L (D_loadB1 (r:=q) rfl (by (repeat first|assumption|exact get_last|(refine get_last2 ?_;focus (simp;done))|apply get_set|apply get_app|(apply get_ne;focus omega)|(apply get_ne;focus (simp only [List.length_set,List.length_append,List.length_cons,List.length_nil];omega)));done) hixc) rfl ?_;refine WL_frzK 83 tN rfl hs9 (ndCs_w cur) ?_;intro h' hh1 hh2;have gN:=(hh2 (p + 1) hp1).trans (get_set hN);have gF : ∀ i,i ≠ p + 1 → i ∉ mcP cv → h'[i]? = H[i]?:=(fun i h1 h2=>(hh2 i h2).trans (List.getElem?_set_ne (Ne.symm h1))))
 | (apply p1 (hd:=rfl);case hop=>first|(apply D_move;rfl)|(apply D_assign;rfl)|(apply D_pc hcont;rfl;exact .same rfl (.same rfl .nil))|(apply D_pc hidxc;rfl;exact .same rfl (.same rfl .nil))|(apply D_ixC;rfl;rfl;all_goals omega)|exact D_sc (D_int rfl rfl rfl) (congrArg (Value.int IntKind.i64) htop1)|exact D_sc (D_int rfl rfl rfl) (congrArg (Value.int IntKind.i64) hw3)|(apply D_pickT;rfl;rfl)|(apply D_pickF;rfl;rfl)|(apply D_int;rfl;rfl;rfl)|exact D_fldB rfl)
 | refine W_seq ?_
 | refine W_region ?_
 | (refine idC ?_;refine cs rfl (fun _=>?_) (fun _=>?_))
 | refine WL_nil ?_
 | (refine idG ?_;first|refine g0f rfl rfl rfl ?_|refine gr rfl rfl ?_|refine gs rfl rfl (fun _=>?_) (fun _=>?_))
 | refine tn ?_
 | refine bn ?_
 | refine W_skip ?_
 | (refine idLd ?_;first|refine p1L (D_loadB1 rfl (by (repeat first|assumption|exact get_last|(refine get_last2 ?_;focus (simp;done))|apply get_set|apply get_app|(apply get_ne;focus omega)|(apply get_ne;focus (simp only [List.length_set,List.length_append,List.length_cons,List.length_nil];omega)));done) (by rfl)) rfl ?_)
 | (refine idS ?_;first|refine pS (S_store rfl rfl rfl (by (repeat first|assumption|exact get_last|(refine get_last2 ?_;focus (simp;done))|apply get_set|apply get_app|(apply get_ne;focus omega)|(apply get_ne;focus (simp only [List.length_set,List.length_append,List.length_cons,List.length_nil];omega)));done) (by rfl) (by rfl) (by rfl)) ?_)
              all_goals first
                | contradiction
                | (exfalso;omega)
                | skip
              rw [List.length_set] at hh1
              have b5:=(nd_base s10 (i:=5) (by decide)).2.2.1
              have b6:=(nd_base s10 (i:=6) (by decide)).2.2.1
              have g5:=(gF 5 (by omega) b5).trans s1
              have g6:=(gF 6 (by omega) b6).trans s6
              refine W_draw0 rfl ?_
              repeat' first
 | refine W_seq ?_
 | refine tn ?_
 | (apply d1 (hd:=rfl);case hop=>first|(apply D_move;rfl)|(apply D_slCh;rfl;rfl;all_goals omega)|exact D_sc (D_int rfl rfl rfl) (congrArg (Value.int IntKind.i64) htop1))
 | (refine idDn ?_;first|refine dS (S_store rfl rfl rfl (by (repeat first|assumption|exact get_last|(refine get_last2 ?_;focus (simp;done))|apply get_set|apply get_app|(apply get_ne;focus omega)|(apply get_ne;focus (simp only [List.length_set,List.length_append,List.length_cons,List.length_nil];omega)));done) (by rfl) (by rfl) (by rfl)) (bltL (by (repeat first|assumption|exact get_last|(refine get_last2 ?_;focus (simp;done))|apply get_set|apply get_app|(apply get_ne;focus omega)|(apply get_ne;focus (simp only [List.length_set,List.length_append,List.length_cons,List.length_nil];omega)));done)) ?_|refine dL _ (fun hp' hs=>D_loadB1 rfl (hs.trans (by (repeat first|assumption|exact get_last|(refine get_last2 ?_;focus (simp;done))|apply get_set|apply get_app|(apply get_ne;focus omega)|(apply get_ne;focus (simp only [List.length_set,List.length_append,List.length_cons,List.length_nil];omega)));done)) (by rfl)) rfl ?_)
 | (refine WD_nil (by first|decide +kernel|kernel_rfl|rfl) ?_)
              refine W_weak (s':=⟨[(6,.bp 5 0),(10,i64 (out.length : Int)),(11,.bp (p + 1) 0)],_,⟨[],_⟩⟩) ⟨⟨rfl,rfl,rfl,trivial⟩,rfl,rfl⟩ ?_
              refine W_gen fun K hK=>?_
              have hKl : K.length = p + 2:=by rw [hK,List.length_set,List.length_set,List.length_set,hh1,hHl]
              have hKF : ∀ i,i ≠ p + 1 → i ≠ 5 → i ≠ 6 → i ∉ mcP cv → K[i]? = H[i]?:=fun i h1 h2 h3 h4=>by
                rw [hK,List.getElem?_set_ne (Ne.symm h3),List.getElem?_set_ne (Ne.symm h2),List.getElem?_set_ne (Ne.symm h1)];exact gF i h1 h4
              have hNK : K[p + 1]? = some (.cells [i64 hk,i64 hvk,i64 hvn,str hvs',str hss,.sl none 8 (ndCs cur),i64 hln,i64 hcl]):=by
                rw [hK];exact get_ne (by omega) (get_ne (by omega) (get_set gN))
              have hK5 : K[5]? = some (.cells [.mc q (o'.length + 1) qc]):=by
                rw [← hlen,hK];exact get_ne (by decide) (get_set (get_ne (by omega) g5))
              have hK6 : K[6]? = some (.cells [.mc r0 o'.length cap0]):=by
                rw [hK];exact get_set (get_ne (by decide) (get_ne (by omega) g6))
              have hPn:=hPH.node hN (by omega) (.cells [i64 hk,i64 hvk,i64 hvn,str hvs',str hss,.sl none 8 (ndCs cur),i64 hln,i64 hcl])
              have hcn:=hPH.cnt
              rw [ho] at hPn u4 u5 s8 hcn
              rw [hlen] at u2 hdp
              rw [hmlen,hlen] at s10
              have hPK : PInv (X .busy none) o' o many K:=by
                refine pinv_cut hPn (get_ne (Ne.symm hqn) s2) s3 s4 (by omega) u2 u3 (get_ne (Ne.symm (ne_ty u4 hN)) u4) u5 (fun i x v hx hv=>(s8 i x v hx hv).set (hne (s8 i x v hx hv)) _) s10 (fun i hi h5 h6 hc=>?_) hK5 hK6
                by_cases e : i = p + 1
                · subst e;rw [List.getElem?_set_self (by omega)];exact hNK
                · rw [List.getElem?_set_ne (Ne.symm e)];exact hKF i e h5 h6 hc
              rw [cntL_app] at hcn
              have hc2 : cntL [(o,Nd.mk hk hvk hvn hvs' hss hkids hln hcl)] = o.length + 1:=by simp [cntL]
              have hcnt : o.length + 1 + cntL o' ≤ many:=by omega
              have hm' : mach leafT ts (o ++ [.mk hk hvk hvn hvs' hss cur hln hcl]) o'.reverse many = R:=hm
              clear gF gN hh2 hK hKF hs9 hld1 hld2 hkd hixc s1 s2 s3 s4 s5 s6 s8 s9 s10 u2 u3 u4 u5 f0 f1 f2 f3 f7 f8 f9 hPn hqn hqp
              obtain ⟨hvs,cv,nv,q,qc,qs,s1,s2,s3,s4,s5,s6,s7,s8,s9,s10⟩:=hPK.sl
              have hqK:=(List.getElem?_eq_some_iff.1 s2).1
              have hqn:=ne_ty s2 hNK
              have hq5 : q ≠ 5:=(nd_base s10 (i:=5) (by decide)).1
              have hixc : ∀ u,(hvs ++ [u] ++ qs)[o'.length]? = some u:=fun u=>by
                rw [List.append_assoc,List.getElem?_append_right (by omega),s5,Nat.sub_self];rfl
              have hix1 : ∀ u,(hvs ++ [u] ++ qs)[((o'.length : Nat) : Int).toNat * 1]? = some u:=fun u=>by
                show (hvs ++ [u] ++ qs)[o'.length * 1]? = _
                rw [Nat.mul_one];exact hixc u
              have hsto : ∀ u v,(hvs ++ [u] ++ qs).take (((o'.length : Nat) : Int).toNat * 1) ++ [v] ++ (hvs ++ [u] ++ qs).drop (((o'.length : Nat) : Int).toNat * 1 + 1) = hvs ++ [v] ++ qs:=fun u v=>by
                show (hvs ++ [u] ++ qs).take (o'.length * 1) ++ [v] ++ (hvs ++ [u] ++ qs).drop (o'.length * 1 + 1) = _
                rw [Nat.mul_one,List.append_assoc hvs [u] qs,List.take_left' s5,← List.drop_drop,List.drop_left' s5];rfl
              have hsof : ((o'.length : Nat) : Int).toNat * 1 + 1 ≤ (hvs ++ [cv] ++ qs).length:=by
                show o'.length * 1 + 1 ≤ _
                simp only [List.length_append,List.length_cons,List.length_nil];omega
              have hset : ∀ u v,(hvs ++ [u] ++ qs).set o'.length v = hvs ++ [v] ++ qs:=fun u v=>by
                rw [List.append_assoc,List.set_append_right _ _ (by omega),s5,Nat.sub_self,List.append_assoc];rfl
              have hccl : (ndCs o).length = o.length:=ndCs_len _
              have hccf : (ndCs o).flatten.length = (ndCs o).length * 8:=flat_len (ndCs_w _)
              have hcl5 : o.length + 1 ≤ 5000:=by have:=hPK.lim;omega
              have hnx : ndCs (o ++ [.mk hk hvk hvn hvs' hss cur hln hcl]) = ndCs o ++ [[i64 hk,i64 hvk,i64 hvn,str hvs',str hss,.sl none 8 (ndCs cur),i64 hln,i64 hcl]]:=by rw [ndCs_app];simp [ndCs,ndC]
              refine W_coin rfl rfl rfl (by decide +kernel) (by decide +kernel) (by decide +kernel) (by decide +kernel) (by decide +kernel) (by decide +kernel) ?_
              intro b
              have hK0 : PInv (X .busy none) o' o many (K ++ [.cells [.sc (.bool b)]]):=hPK.app _
              have hN0 : (K ++ [AObj.cells [.sc (.bool b)]])[p + 1]? = some (.cells [i64 hk,i64 hvk,i64 hvn,str hvs',str hss,.sl none 8 (ndCs cur),i64 hln,i64 hcl]):=get_app hNK
              have t1 : (K ++ [AObj.cells [.sc (.bool b)]])[5]? = _:=get_app s1
              have t2 : (K ++ [AObj.cells [.sc (.bool b)]])[q]? = _:=get_app s2
              have t6 : (K ++ [AObj.cells [.sc (.bool b)]])[6]? = _:=get_app s6
              have t7:=s7.app (.cells [.sc (.bool b)])
              have t8 : ∀ (i : Nat) (x : List Nd × Nd) (v : AV),o'[i]? = some x → hvs[i]? = some v → SlK 8 tN (ndCs x.1) v (K ++ [.cells [.sc (.bool b)]]):=fun i x v hx hv=>(s8 i x v hx hv).app _
              have t9:=s9.app (.cells [.sc (.bool b)])
              have t9':=t9
              have k9:=hK0.a9
              have hq9 : q ≠ 9:=(nd_base s10 (i:=9) (by decide)).1
              have hKl0 : (K ++ [AObj.cells [.sc (.bool b)]]).length = p + 3:=by rw [List.length_append,hKl];rfl
              clear s1 s2 s6 s7 s8 s9 hPK hNK
              rcases t9 with ⟨rfl,hnil⟩ | ⟨rv,cap,sp,rfl,v2,v3,v4,v5⟩
              · cases b with
                | false =>
                  have hq3 : q ≠ p + 3:=by omega
                  have hc0 : o = []:=ndCs_nil hnil
                  repeat' first
 | (refine idC ?_;refine c0 rfl ?_)
 | (refine tn ?_)
                  all_goals first
                    | (exfalso;rename_i hh;exact Bool.noConfusion hh)
                    | skip
                  refine W_resv 1 ?_
                  refine W_hq (h':=K ++ [AObj.cells [.sc (.bool false)]] ++ [.free]) rfl ?_
                  have hfr : (K ++ [AObj.cells [.sc (.bool false)]] ++ [AObj.free])[p + 3]? = some .free:=by
                    have:=get_last (h:=K ++ [AObj.cells [.sc (.bool false)]]) (x:=AObj.free)
                    rw [hKl0] at this;exact this
                  refine W_draw0 rfl ?_
                  repeat' first
 | (refine idLdD ?_;refine dL q (fun _ hs=>D_loadB1 rfl (hs.trans (get_app t2)) (hix1 _)) rfl ?_)
 | (refine idLdD ?_;refine dL (p + 1) (fun _ hs=>D_loadBAe (c:=[i64 hk,i64 hvk,i64 hvn,str hvs',str hss,.sl none 8 (ndCs cur),i64 hln,i64 hcl]) rfl (hs.trans (get_app hN0)) (by simp) rfl) rfl ?_)
 | (refine idApD rfl ?_;refine dV (S_appN0 (els':=[[i64 hk,i64 hvk,i64 hvn,str hvs',str hss,.sl none 8 (ndCs cur),i64 hln,i64 hcl]]) (p + 3) rfl rfl hfr (by simp) rfl rfl (by simp) (by simp)) (bltL hfr) rfl ?_)
 | (refine idStD ?_;refine dS (S_storee (r:=q) rfl rfl rfl (by (repeat first|assumption|exact get_last|(refine get_last2 ?_;focus (simp;done))|apply get_set|apply get_app|(apply get_ne;focus omega)|(apply get_ne;focus (simp only [List.length_set,List.length_append,List.length_cons,List.length_nil];omega)));done) rfl rfl hsof (hsto _ _)) (bltL (by (repeat first|assumption|exact get_last|(refine get_last2 ?_;focus (simp;done))|apply get_set|apply get_app|(apply get_ne;focus omega)|(apply get_ne;focus (simp only [List.length_set,List.length_append,List.length_cons,List.length_nil];omega)));done)) ?_)
 | (apply d1 (hd:=rfl);case hop=>first|(apply D_move;rfl)|(apply D_ixC;rfl;rfl;all_goals omega)|exact D_sc (D_int rfl rfl rfl) (congrArg (Value.int IntKind.i64) htop1)|(apply D_lit;rfl;rfl;rfl;rfl))
 | (refine idDn ?_;first|refine dL _ (fun hp' hs=>D_loadB1 rfl (hs.trans (by (repeat first|assumption|exact get_last|(refine get_last2 ?_;focus (simp;done))|apply get_set|apply get_app|(apply get_ne;focus omega)|(apply get_ne;focus (simp only [List.length_set,List.length_append,List.length_cons,List.length_nil];omega)));done)) (by rfl)) rfl ?_)
                  refine WD_nilR [5,q,p + 1,p + 3] [([0],none),([],none),([],none),([0],none),([],none),([],none),([],none),([1],none),([2],none),([],none),([3],some 3),([],none),([1],some 1)] ?_ rfl rfl (by decide +kernel) ?_
                  · simp only [List.nodup_cons,List.mem_cons,List.not_mem_nil,or_false,not_or,List.nodup_nil,and_true,not_false_eq_true];omega
                  refine tn ?_
                  refine W_rowCC q o'.length (p + 3) (els:=[[i64 hk,i64 hvk,i64 hvn,str hvs',str hss,.sl none 8 (ndCs cur),i64 hln,i64 hcl]]) (get_set (by (repeat first|assumption|exact get_last|(refine get_last2 ?_;focus (simp;done))|apply get_set|apply get_app|(apply get_ne;focus omega)|(apply get_ne;focus (simp only [List.length_set,List.length_append,List.length_cons,List.length_nil];omega)));done)) (hixc _) (get_ne hq3 (get_set hfr)) (by simp) (by simp) hq3 ?_
                  intro sp' cap' e1 e2 e3
                  repeat' first
 | refine te ?_
 | (refine idB ?_;first|refine bh rfl ?_|refine bm rfl ?_)
 | (refine W_exit ?_)
                  refine ⟨rfl,⟨.busy,none,Eq.trans (b:=some (X .busy none)) (by (repeat first|assumption|exact get_last|(refine get_last2 ?_;focus (simp;done))|apply get_set|apply get_app|(apply get_ne;focus omega)|(apply get_ne;focus (simp only [List.length_set,List.length_append,List.length_cons,List.length_nil];omega)));done) (congrArg some (hX _ _))⟩,(fun _=>⟨o',o ++ [.mk hk hvk hvn hvs' hss cur hln hcl],many,.inl ?_,hok',hm'⟩),(fun e=>nomatch e)⟩
                  rw [← hX .ready none]
                  refine PInv.turn (X:=X .busy none) ?_ _
                  have hlx : (ndCs (o ++ [.mk hk hvk hvn hvs' hss cur hln hcl])).length = ([[i64 hk,i64 hvk,i64 hvn,str hvs',str hss,.sl none 8 (ndCs cur),i64 hln,i64 hcl]]).length:=(congrArg List.length hnx).trans (by first|rfl|(rw [hnil];rfl)|(simp;done))
                  refine pinv_app hK0 t1 t2 s3 s4 s5 t6 t7 t8 t9' s10 (fun i hi hq hc=>?_) (cv':=.mc (p + 3) (ndCs (o ++ [.mk hk hvk hvn hvs' hss cur hln hcl])).length cap') ?_ (.inr ⟨p + 3,cap',sp',rfl,?_,e2,?_,?_⟩) (fun i hi=>.inr (by rw [mcP,List.mem_singleton] at hi;omega)) hcnt
                  · have hir : p + 3 ≠ i:=by omega
                    repeat first|rw [List.getElem?_set_ne (Ne.symm hq)]|rw [List.getElem?_set_ne hir]
                    exact List.getElem?_append_left hi
                  · refine Eq.trans (by (repeat first|assumption|exact get_last|(refine get_last2 ?_;focus (simp;done))|apply get_set|apply get_app|(apply get_ne;focus omega)|(apply get_ne;focus (simp only [List.length_set,List.length_append,List.length_cons,List.length_nil];omega)));done) ?_
                    rw [hset,hlx]
                    try rfl
                  · rw [hlx];simpa using e1
                  · refine Eq.trans (by (repeat first|assumption|exact get_last|(refine get_last2 ?_;focus (simp;done))|apply get_set|apply get_app|(apply get_ne;focus omega)|(apply get_ne;focus (simp only [List.length_set,List.length_append,List.length_cons,List.length_nil];omega)));done) ?_
                    rw [hnx] ; simp [hnil]
                  · rw [hnx]
                    first|exact e3|(rw [← e3];simp [hnil])
                | true =>
                  have hq3 : q ≠ p + 3:=by omega
                  have hc0 : o = []:=ndCs_nil hnil
                  repeat' first
 | refine W_seq ?_
 | (refine idC ?_;refine cs rfl (fun _=>?_) (fun _=>?_))
 | (refine tn ?_)
                  all_goals first
                    | (exfalso;rename_i hh;exact Bool.noConfusion hh)
                    | skip
                  refine W_resv 1 ?_
                  refine W_hq (h':=K ++ [AObj.cells [.sc (.bool true)]] ++ [.free]) rfl ?_
                  have hfr : (K ++ [AObj.cells [.sc (.bool true)]] ++ [AObj.free])[p + 3]? = some .free:=by
                    have:=get_last (h:=K ++ [AObj.cells [.sc (.bool true)]]) (x:=AObj.free)
                    rw [hKl0] at this;exact this
                  refine W_draw0 rfl ?_
                  repeat' first
 | (refine idLdD ?_;refine dL q (fun _ hs=>D_loadB1 rfl (hs.trans (get_app t2)) (hix1 _)) rfl ?_)
 | (refine idLdD ?_;refine dL (p + 1) (fun _ hs=>D_loadBAe (c:=[i64 hk,i64 hvk,i64 hvn,str hvs',str hss,.sl none 8 (ndCs cur),i64 hln,i64 hcl]) rfl (hs.trans (get_app hN0)) (by simp) rfl) rfl ?_)
 | (refine idApD rfl ?_;refine dV (S_appN0 (els':=[[.sc (.int .i64 0),.sc (.int .i64 0),.sc (.int .i64 0),str [],str [],nilV,.sc (.int .i64 0),.sc (.int .i64 0)]]) (p + 3) rfl rfl hfr (by simp) rfl rfl (by simp) (by simp)) (bltL hfr) rfl ?_)
 | (refine idStD ?_;refine dS (S_storee (r:=q) rfl rfl rfl (by (repeat first|assumption|exact get_last|(refine get_last2 ?_;focus (simp;done))|apply get_set|apply get_app|(apply get_ne;focus omega)|(apply get_ne;focus (simp only [List.length_set,List.length_append,List.length_cons,List.length_nil];omega)));done) rfl rfl hsof (hsto _ _)) (bltL (by (repeat first|assumption|exact get_last|(refine get_last2 ?_;focus (simp;done))|apply get_set|apply get_app|(apply get_ne;focus omega)|(apply get_ne;focus (simp only [List.length_set,List.length_append,List.length_cons,List.length_nil];omega)));done)) ?_)
 | (apply d1 (hd:=rfl);case hop=>first|(apply D_move;rfl)|(apply D_ixC;rfl;rfl;all_goals omega)|exact D_litA rfl rfl|exact D_sc (D_int rfl rfl rfl) (congrArg (Value.int IntKind.i64) htop1)|(apply D_len_nil;rfl))
 | (refine idDn ?_; first|refine dL _ (fun hp' hs=>D_loadB1 rfl (hs.trans (by (repeat first|assumption|exact get_last|(refine get_last2 ?_;focus (simp;done))|apply get_set|apply get_app|(apply get_ne;focus omega)|(apply get_ne;focus (simp only [List.length_set,List.length_append,List.length_cons,List.length_nil];omega)));done)) (by rfl)) rfl ?_)
                  refine WD_nilR [5,q,p + 1,p + 3] [([0],none),([],none),([],none),([0],none),([],none),([],none),([],none),([1],none),([2],none),([],none),([],none),([3],some 3),([],none),([1],some 1)] ?_ rfl rfl (by decide +kernel) ?_
                  · simp only [List.nodup_cons,List.mem_cons,List.not_mem_nil,or_false,not_or,List.nodup_nil,and_true,not_false_eq_true];omega
                  refine tn ?_
                  refine W_rowCCt 105 q o'.length (p + 3) (els:=[[.sc (.int .i64 0),.sc (.int .i64 0),.sc (.int .i64 0),str [],str [],nilV,.sc (.int .i64 0),.sc (.int .i64 0)]]) rfl (get_set (by (repeat first|assumption|exact get_last|(refine get_last2 ?_;focus (simp;done))|apply get_set|apply get_app|(apply get_ne;focus omega)|(apply get_ne;focus (simp only [List.length_set,List.length_append,List.length_cons,List.length_nil];omega)));done)) (hixc _) (get_ne hq3 (get_set hfr)) (by simp) (by simp) hq3 ?_
                  intro sp' cap' e1 e2 e3
                  have hof : ((0 : Nat) : Int).toNat * 8 + 8 ≤ (([[.sc (.int .i64 0),.sc (.int .i64 0),.sc (.int .i64 0),str [],str [],nilV,.sc (.int .i64 0),.sc (.int .i64 0)]]).flatten ++ sp').length:=by
                    show 0 * 8 + 8 ≤ _
                    simp only [List.flatten_append,List.flatten_cons,List.flatten_nil,List.append_nil,List.length_append,hccf,List.length_cons,List.length_nil,hc0,ndCs];omega
                  have hst2 : (([[.sc (.int .i64 0),.sc (.int .i64 0),.sc (.int .i64 0),str [],str [],nilV,.sc (.int .i64 0),.sc (.int .i64 0)]]).flatten ++ sp').take (((0 : Nat) : Int).toNat * 8) ++ [i64 hk,i64 hvk,i64 hvn,str hvs',str hss,.sl none 8 (ndCs cur),i64 hln,i64 hcl] ++ (([[.sc (.int .i64 0),.sc (.int .i64 0),.sc (.int .i64 0),str [],str [],nilV,.sc (.int .i64 0),.sc (.int .i64 0)]]).flatten ++ sp').drop (((0 : Nat) : Int).toNat * 8 + 8) = (ndCs (o ++ [.mk hk hvk hvn hvs' hss cur hln hcl])).flatten ++ sp':=by
                    show (([[.sc (.int .i64 0),.sc (.int .i64 0),.sc (.int .i64 0),str [],str [],nilV,.sc (.int .i64 0),.sc (.int .i64 0)]]).flatten ++ sp').take (0 * 8) ++ [i64 hk,i64 hvk,i64 hvn,str hvs',str hss,.sl none 8 (ndCs cur),i64 hln,i64 hcl] ++ (([[.sc (.int .i64 0),.sc (.int .i64 0),.sc (.int .i64 0),str [],str [],nilV,.sc (.int .i64 0),.sc (.int .i64 0)]]).flatten ++ sp').drop (0 * 8 + 8) = _
                    rw [hnx]
                    rw [hnil];simp
                  repeat' first
 | (refine idStL ?_;refine pS (S_storee (r:=(p + 3)) rfl rfl rfl (by (repeat first|assumption|exact get_last|(refine get_last2 ?_;focus (simp;done))|apply get_set|apply get_app|(apply get_ne;focus omega)|(apply get_ne;focus (simp only [List.length_set,List.length_append,List.length_cons,List.length_nil];omega)));done) rfl rfl hof hst2) ?_)
 | (apply p1 (hd:=rfl);case hop=>first|(apply D_ixC;rfl;rfl;all_goals (first|omega|(simp only [List.length_append,List.length_cons,List.length_nil];omega))))
 | refine W_region ?_
 | refine WL_nil ?_
 | refine tn ?_
 | refine te ?_
 | (refine idB ?_;first|refine bh rfl ?_|refine bm rfl ?_)
 | (refine W_exit ?_)
                  refine ⟨rfl,⟨.busy,none,Eq.trans (b:=some (X .busy none)) (by (repeat first|assumption|exact get_last|(refine get_last2 ?_;focus (simp;done))|apply get_set|apply get_app|(apply get_ne;focus omega)|(apply get_ne;focus (simp only [List.length_set,List.length_append,List.length_cons,List.length_nil];omega)));done) (congrArg some (hX _ _))⟩,(fun _=>⟨o',o ++ [.mk hk hvk hvn hvs' hss cur hln hcl],many,.inl ?_,hok',hm'⟩),(fun e=>nomatch e)⟩
                  rw [← hX .ready none]
                  refine PInv.turn (X:=X .busy none) ?_ _
                  have hlx : (ndCs (o ++ [.mk hk hvk hvn hvs' hss cur hln hcl])).length = ([[.sc (.int .i64 0),.sc (.int .i64 0),.sc (.int .i64 0),str [],str [],nilV,.sc (.int .i64 0),.sc (.int .i64 0)]]).length:=(congrArg List.length hnx).trans (by first|rfl|(rw [hnil];rfl)|(simp;done))
                  refine pinv_app hK0 t1 t2 s3 s4 s5 t6 t7 t8 t9' s10 (fun i hi hq hc=>?_) (cv':=.mc (p + 3) (ndCs (o ++ [.mk hk hvk hvn hvs' hss cur hln hcl])).length cap') ?_ (.inr ⟨p + 3,cap',sp',rfl,?_,e2,?_,?_⟩) (fun i hi=>.inr (by rw [mcP,List.mem_singleton] at hi;omega)) hcnt
                  · have hir : p + 3 ≠ i:=by omega
                    repeat first|rw [List.getElem?_set_ne (Ne.symm hq)]|rw [List.getElem?_set_ne hir]
                    exact List.getElem?_append_left hi
                  · refine Eq.trans (by (repeat first|assumption|exact get_last|(refine get_last2 ?_;focus (simp;done))|apply get_set|apply get_app|(apply get_ne;focus omega)|(apply get_ne;focus (simp only [List.length_set,List.length_append,List.length_cons,List.length_nil];omega)));done) ?_
                    rw [hset,hlx]
                    try rfl
                  · rw [hlx];simpa using e1
                  · exact (by (repeat first|assumption|exact get_last|(refine get_last2 ?_;focus (simp;done))|apply get_set|apply get_app|(apply get_ne;focus omega)|(apply get_ne;focus (simp only [List.length_set,List.length_append,List.length_cons,List.length_nil];omega)));done)
                  · rw [hnx]
                    first|exact e3|(rw [← e3];simp [hnil])
              · have hrK:=(List.getElem?_eq_some_iff.1 v4).1
                obtain ⟨hrb,hrq,hrv⟩:=s10.d3 _ (List.mem_append.2 (.inr (.head _))) rv (by rw [mcP];exact .head _)
                have hr5 : rv ≠ 5:=fun e=>hrb (by rw [e];decide)
                have hr9 : rv ≠ 9:=fun e=>hrb (by rw [e];decide)
                have hrn:=ne_ty v4 hN0
                by_cases hroom : (ndCs o).length + 1 ≤ cap
                · have hsp8 : 8 ≤ sp.length:=by
                    simp only [List.length_append,hccf] at v5;omega
                  have hys : ((ndCs o).flatten ++ sp).take ((ndCs o).length * 8) ++ [[i64 hk,i64 hvk,i64 hvn,str hvs',str hss,.sl none 8 (ndCs cur),i64 hln,i64 hcl]].flatten ++ ((ndCs o).flatten ++ sp).drop ((ndCs o).length * 8 + [[i64 hk,i64 hvk,i64 hvn,str hvs',str hss,.sl none 8 (ndCs cur),i64 hln,i64 hcl]].flatten.length) = (ndCs (o ++ [.mk hk hvk hvn hvs' hss cur hln hcl])).flatten ++ sp.drop 8:=by
                    rw [hnx,List.take_left' hccf,← List.drop_drop,List.drop_left' hccf,List.flatten_append];rfl
                  have hysz : ((ndCs o).flatten ++ sp).take ((ndCs o).length * 8) ++ [[.sc (.int .i64 0),.sc (.int .i64 0),.sc (.int .i64 0),str [],str [],nilV,.sc (.int .i64 0),.sc (.int .i64 0)]].flatten ++ ((ndCs o).flatten ++ sp).drop ((ndCs o).length * 8 + [[.sc (.int .i64 0),.sc (.int .i64 0),.sc (.int .i64 0),str [],str [],nilV,.sc (.int .i64 0),.sc (.int .i64 0)]].flatten.length) = (ndCs o ++ [[.sc (.int .i64 0),.sc (.int .i64 0),.sc (.int .i64 0),str [],str [],nilV,.sc (.int .i64 0),.sc (.int .i64 0)]]).flatten ++ sp.drop 8:=by
                    rw [List.take_left' hccf,← List.drop_drop,List.drop_left' hccf,List.flatten_append];rfl
                  cases b with
                  | false =>
                    have hq3 : q ≠ p + 3:=by omega
                    have hr3 : rv ≠ p + 3:=by omega
                    repeat' first
 | (refine idC ?_;refine c0 rfl ?_)
 | (refine tn ?_)
                    all_goals first
                      | (exfalso;rename_i hh;exact Bool.noConfusion hh)
                      | skip
                    refine W_resv 1 ?_
                    refine W_hq (h':=K ++ [AObj.cells [.sc (.bool false)]] ++ [.free]) rfl ?_
                    have hfr : (K ++ [AObj.cells [.sc (.bool false)]] ++ [AObj.free])[p + 3]? = some .free:=by
                      have:=get_last (h:=K ++ [AObj.cells [.sc (.bool false)]]) (x:=AObj.free)
                      rw [hKl0] at this;exact this
                    refine W_draw0 rfl ?_
                    repeat' first
 | (refine idLdD ?_;refine dL q (fun _ hs=>D_loadB1 rfl (hs.trans (get_app t2)) (hix1 _)) rfl ?_)
 | (refine idLdD ?_;refine dL (p + 1) (fun _ hs=>D_loadBAe (c:=[i64 hk,i64 hvk,i64 hvn,str hvs',str hss,.sl none 8 (ndCs cur),i64 hln,i64 hcl]) rfl (hs.trans (get_app hN0)) (by simp) rfl) rfl ?_)
 | (refine idApD rfl ?_;refine dV (S_appCe (els':=[[i64 hk,i64 hvk,i64 hvn,str hvs',str hss,.sl none 8 (ndCs cur),i64 hln,i64 hcl]]) rfl rfl (get_app v4) v5 (by simp) (by simp only [List.length_cons,List.length_nil];omega) hys) (bltL (get_app v4)) rfl ?_)
 | (refine idStD ?_;refine dS (S_storee (r:=q) rfl rfl rfl (by (repeat first|assumption|exact get_last|(refine get_last2 ?_;focus (simp;done))|apply get_set|apply get_app|(apply get_ne;focus omega)|(apply get_ne;focus (simp only [List.length_set,List.length_append,List.length_cons,List.length_nil];omega)));done) rfl rfl hsof (hsto _ _)) (bltL (by (repeat first|assumption|exact get_last|(refine get_last2 ?_;focus (simp;done))|apply get_set|apply get_app|(apply get_ne;focus omega)|(apply get_ne;focus (simp only [List.length_set,List.length_append,List.length_cons,List.length_nil];omega)));done)) ?_)
 | (apply d1 (hd:=rfl);case hop=>first|(apply D_move;rfl)|(apply D_ixC;rfl;rfl;all_goals omega)|exact D_sc (D_int rfl rfl rfl) (congrArg (Value.int IntKind.i64) htop1)|(apply D_lit;rfl;rfl;rfl;rfl))
 | (refine idDn ?_; first|refine dL _ (fun hp' hs=>D_loadB1 rfl (hs.trans (by (repeat first|assumption|exact get_last|(refine get_last2 ?_;focus (simp;done))|apply get_set|apply get_app|(apply get_ne;focus omega)|(apply get_ne;focus (simp only [List.length_set,List.length_append,List.length_cons,List.length_nil];omega)));done)) (by rfl)) rfl ?_)
                    refine WD_nilR [5,q,p + 1,rv,p + 3] [([0],none),([],none),([],none),([0],none),([],none),([],none),([],none),([1],none),([2],none),([],none),([3],some 3),([],none),([1],some 1)] ?_ rfl rfl (by decide +kernel) ?_
                    · simp only [List.nodup_cons,List.mem_cons,List.not_mem_nil,or_false,not_or,List.nodup_nil,and_true,not_false_eq_true];omega
                    refine tn ?_
                    repeat' first
 | refine te ?_
 | (refine idB ?_;first|refine bh rfl ?_|refine bm rfl ?_)
 | (refine W_exit ?_)
                    refine ⟨rfl,⟨.busy,none,Eq.trans (b:=some (X .busy none)) (by (repeat first|assumption|exact get_last|(refine get_last2 ?_;focus (simp;done))|apply get_set|apply get_app|(apply get_ne;focus omega)|(apply get_ne;focus (simp only [List.length_set,List.length_append,List.length_cons,List.length_nil];omega)));done) (congrArg some (hX _ _))⟩,(fun _=>⟨o',o ++ [.mk hk hvk hvn hvs' hss cur hln hcl],many,.inl ?_,hok',hm'⟩),(fun e=>nomatch e)⟩
                    rw [← hX .ready none]
                    refine PInv.turn (X:=X .busy none) ?_ _
                    refine pinv_app hK0 t1 t2 s3 s4 s5 t6 t7 t8 t9' s10 (fun i hi hq hc=>?_) (cv':=.mc rv ((ndCs o).length + 1) cap) (by (repeat first|assumption|exact get_last|(refine get_last2 ?_;focus (simp;done))|apply get_set|apply get_app|(apply get_ne;focus omega)|(apply get_ne;focus (simp only [List.length_set,List.length_append,List.length_cons,List.length_nil];omega)));done) (.inr ⟨rv,cap,sp.drop 8,?_,?_,v3,?_,?_⟩) (fun i hi=>.inl hi) hcnt
                    · have hir : rv ≠ i:=fun e=>hc (by rw [mcP,e];exact .head _)
                      repeat first|rw [List.getElem?_set_ne (Ne.symm hq)]|rw [List.getElem?_set_ne hir]
                      exact List.getElem?_append_left hi
                    · rw [hnx,List.length_append];rfl
                    · rw [hnx,List.length_append];exact hroom
                    · exact (by (repeat first|assumption|exact get_last|(refine get_last2 ?_;focus (simp;done))|apply get_set|apply get_app|(apply get_ne;focus omega)|(apply get_ne;focus (simp only [List.length_set,List.length_append,List.length_cons,List.length_nil];omega)));done)
                    · rw [hnx,List.flatten_append]
                      simp only [List.length_append,List.flatten_cons,List.flatten_nil,List.append_nil,List.length_drop,hccf,List.length_cons,List.length_nil] at v5 ⊢
                      omega
                  | true =>
                    have hq3 : q ≠ p + 3:=by omega
                    have hr3 : rv ≠ p + 3:=by omega
                    repeat' first
 | refine W_seq ?_
 | (refine idC ?_;refine cs rfl (fun _=>?_) (fun _=>?_))
 | (refine tn ?_)
                    all_goals first
                      | (exfalso;rename_i hh;exact Bool.noConfusion hh)
                      | skip
                    refine W_resv 1 ?_
                    refine W_hq (h':=K ++ [AObj.cells [.sc (.bool true)]] ++ [.free]) rfl ?_
                    have hfr : (K ++ [AObj.cells [.sc (.bool true)]] ++ [AObj.free])[p + 3]? = some .free:=by
                      have:=get_last (h:=K ++ [AObj.cells [.sc (.bool true)]]) (x:=AObj.free)
                      rw [hKl0] at this;exact this
                    refine W_draw0 rfl ?_
                    repeat' first
 | (refine idLdD ?_;refine dL q (fun _ hs=>D_loadB1 rfl (hs.trans (get_app t2)) (hix1 _)) rfl ?_)
 | (refine idLdD ?_;refine dL (p + 1) (fun _ hs=>D_loadBAe (c:=[i64 hk,i64 hvk,i64 hvn,str hvs',str hss,.sl none 8 (ndCs cur),i64 hln,i64 hcl]) rfl (hs.trans (get_app hN0)) (by simp) rfl) rfl ?_)
 | (refine idApD rfl ?_;refine dV (S_appCe (els':=[[.sc (.int .i64 0),.sc (.int .i64 0),.sc (.int .i64 0),str [],str [],nilV,.sc (.int .i64 0),.sc (.int .i64 0)]]) rfl rfl (get_app v4) v5 (by simp) (by simp only [List.length_cons,List.length_nil];omega) hysz) (bltL (get_app v4)) rfl ?_)
 | (refine idStD ?_;refine dS (S_storee (r:=q) rfl rfl rfl (by (repeat first|assumption|exact get_last|(refine get_last2 ?_;focus (simp;done))|apply get_set|apply get_app|(apply get_ne;focus omega)|(apply get_ne;focus (simp only [List.length_set,List.length_append,List.length_cons,List.length_nil];omega)));done) rfl rfl hsof (hsto _ _)) (bltL (by (repeat first|assumption|exact get_last|(refine get_last2 ?_;focus (simp;done))|apply get_set|apply get_app|(apply get_ne;focus omega)|(apply get_ne;focus (simp only [List.length_set,List.length_append,List.length_cons,List.length_nil];omega)));done)) ?_)
 | (apply d1 (hd:=rfl);case hop=>first|(apply D_move;rfl)|(apply D_lenC;rfl)|(apply D_ixC;rfl;rfl;all_goals omega)|exact D_litA rfl rfl|exact D_sc (D_int rfl rfl rfl) (congrArg (Value.int IntKind.i64) htop1))
 | (refine idDn ?_; first|refine dL _ (fun hp' hs=>D_loadB1 rfl (hs.trans (by (repeat first|assumption|exact get_last|(refine get_last2 ?_;focus (simp;done))|apply get_set|apply get_app|(apply get_ne;focus omega)|(apply get_ne;focus (simp only [List.length_set,List.length_append,List.length_cons,List.length_nil];omega)));done)) (by rfl)) rfl ?_)
                    refine WD_nilR [5,q,p + 1,rv,p + 3] [([0],none),([],none),([],none),([0],none),([],none),([],none),([],none),([1],none),([2],none),([],none),([],none),([3],some 3),([],none),([1],some 1)] ?_ rfl rfl (by decide +kernel) ?_
                    · simp only [List.nodup_cons,List.mem_cons,List.not_mem_nil,or_false,not_or,List.nodup_nil,and_true,not_false_eq_true];omega
                    refine tn ?_
                    have hof : (((ndCs o).length : Nat) : Int).toNat * 8 + 8 ≤ ((ndCs o ++ [[.sc (.int .i64 0),.sc (.int .i64 0),.sc (.int .i64 0),str [],str [],nilV,.sc (.int .i64 0),.sc (.int .i64 0)]]).flatten ++ (sp.drop 8)).length:=by
                      show (ndCs o).length * 8 + 8 ≤ _
                      simp only [List.flatten_append,List.flatten_cons,List.flatten_nil,List.append_nil,List.length_append,hccf,List.length_cons,List.length_nil];omega
                    have hst2 : ((ndCs o ++ [[.sc (.int .i64 0),.sc (.int .i64 0),.sc (.int .i64 0),str [],str [],nilV,.sc (.int .i64 0),.sc (.int .i64 0)]]).flatten ++ (sp.drop 8)).take ((((ndCs o).length : Nat) : Int).toNat * 8) ++ [i64 hk,i64 hvk,i64 hvn,str hvs',str hss,.sl none 8 (ndCs cur),i64 hln,i64 hcl] ++ ((ndCs o ++ [[.sc (.int .i64 0),.sc (.int .i64 0),.sc (.int .i64 0),str [],str [],nilV,.sc (.int .i64 0),.sc (.int .i64 0)]]).flatten ++ (sp.drop 8)).drop ((((ndCs o).length : Nat) : Int).toNat * 8 + 8) = (ndCs (o ++ [.mk hk hvk hvn hvs' hss cur hln hcl])).flatten ++ (sp.drop 8):=by
                      show ((ndCs o ++ [[.sc (.int .i64 0),.sc (.int .i64 0),.sc (.int .i64 0),str [],str [],nilV,.sc (.int .i64 0),.sc (.int .i64 0)]]).flatten ++ (sp.drop 8)).take ((ndCs o).length * 8) ++ [i64 hk,i64 hvk,i64 hvn,str hvs',str hss,.sl none 8 (ndCs cur),i64 hln,i64 hcl] ++ ((ndCs o ++ [[.sc (.int .i64 0),.sc (.int .i64 0),.sc (.int .i64 0),str [],str [],nilV,.sc (.int .i64 0),.sc (.int .i64 0)]]).flatten ++ (sp.drop 8)).drop ((ndCs o).length * 8 + 8) = _
                      rw [hnx]
                      rw [List.flatten_append,List.append_assoc (ndCs o).flatten,List.take_left' hccf,← List.drop_drop,List.drop_left' hccf,List.flatten_append];simp
                    repeat' first
 | (refine idStL ?_;refine pS (S_storee (r:=rv) rfl rfl rfl (by (repeat first|assumption|exact get_last|(refine get_last2 ?_;focus (simp;done))|apply get_set|apply get_app|(apply get_ne;focus omega)|(apply get_ne;focus (simp only [List.length_set,List.length_append,List.length_cons,List.length_nil];omega)));done) rfl rfl hof hst2) ?_)
 | (apply p1 (hd:=rfl);case hop=>first|(apply D_ixC;rfl;rfl;all_goals (first|omega|(simp only [List.length_append,List.length_cons,List.length_nil];omega))))
 | refine W_region ?_
 | refine WL_nil ?_
 | refine tn ?_
 | refine te ?_
 | (refine idB ?_;first|refine bh rfl ?_|refine bm rfl ?_)
 | (refine W_exit ?_)
                    refine ⟨rfl,⟨.busy,none,Eq.trans (b:=some (X .busy none)) (by (repeat first|assumption|exact get_last|(refine get_last2 ?_;focus (simp;done))|apply get_set|apply get_app|(apply get_ne;focus omega)|(apply get_ne;focus (simp only [List.length_set,List.length_append,List.length_cons,List.length_nil];omega)));done) (congrArg some (hX _ _))⟩,(fun _=>⟨o',o ++ [.mk hk hvk hvn hvs' hss cur hln hcl],many,.inl ?_,hok',hm'⟩),(fun e=>nomatch e)⟩
                    rw [← hX .ready none]
                    refine PInv.turn (X:=X .busy none) ?_ _
                    refine pinv_app hK0 t1 t2 s3 s4 s5 t6 t7 t8 t9' s10 (fun i hi hq hc=>?_) (cv':=.mc rv ((ndCs o).length + 1) cap) (by (repeat first|assumption|exact get_last|(refine get_last2 ?_;focus (simp;done))|apply get_set|apply get_app|(apply get_ne;focus omega)|(apply get_ne;focus (simp only [List.length_set,List.length_append,List.length_cons,List.length_nil];omega)));done) (.inr ⟨rv,cap,sp.drop 8,?_,?_,v3,?_,?_⟩) (fun i hi=>.inl hi) hcnt
                    · have hir : rv ≠ i:=fun e=>hc (by rw [mcP,e];exact .head _)
                      repeat first|rw [List.getElem?_set_ne (Ne.symm hq)]|rw [List.getElem?_set_ne hir]
                      exact List.getElem?_append_left hi
                    · rw [hnx,List.length_append];rfl
                    · rw [hnx,List.length_append];exact hroom
                    · exact (by (repeat first|assumption|exact get_last|(refine get_last2 ?_;focus (simp;done))|apply get_set|apply get_app|(apply get_ne;focus omega)|(apply get_ne;focus (simp only [List.length_set,List.length_append,List.length_cons,List.length_nil];omega)));done)
                    · rw [hnx,List.flatten_append]
                      simp only [List.length_append,List.flatten_cons,List.flatten_nil,List.append_nil,List.length_drop,hccf,List.length_cons,List.length_nil] at v5 ⊢
                      omega
                · cases b with
                  | false =>
                    have hq3 : q ≠ p + 3:=by omega
                    have hr3 : rv ≠ p + 3:=by omega
                    repeat' first
 | (refine idC ?_;refine c0 rfl ?_)
 | (refine tn ?_)
                    all_goals first
                      | (exfalso;rename_i hh;exact Bool.noConfusion hh)
                      | skip
                    refine W_resv 1 ?_
                    refine W_hq (h':=K ++ [AObj.cells [.sc (.bool false)]] ++ [.free]) rfl ?_
                    have hfr : (K ++ [AObj.cells [.sc (.bool false)]] ++ [AObj.free])[p + 3]? = some .free:=by
                      have:=get_last (h:=K ++ [AObj.cells [.sc (.bool false)]]) (x:=AObj.free)
                      rw [hKl0] at this;exact this
                    refine W_draw0 rfl ?_
                    repeat' first
 | (refine idLdD ?_;refine dL q (fun _ hs=>D_loadB1 rfl (hs.trans (get_app t2)) (hix1 _)) rfl ?_)
 | (refine idLdD ?_;refine dL (p + 1) (fun _ hs=>D_loadBAe (c:=[i64 hk,i64 hvk,i64 hvn,str hvs',str hss,.sl none 8 (ndCs cur),i64 hln,i64 hcl]) rfl (hs.trans (get_app hN0)) (by simp) rfl) rfl ?_)
 | (refine idApD rfl ?_;refine dV2 (S_appN1 (els:=ndCs o) (els':=[[i64 hk,i64 hvk,i64 hvn,str hvs',str hss,.sl none 8 (ndCs cur),i64 hln,i64 hcl]]) (sp:=sp) (p + 3) rfl rfl hfr (get_app v4) rfl (by simp only [List.length_cons,List.length_nil];omega) (by simp) rfl (ndCs_w _) hccf rfl (by simp only [List.length_cons,List.length_nil];omega) (by simp only [List.length_cons,List.length_nil];omega)) (bltL hfr) rfl ?_)
 | (refine idStD ?_;refine dS (S_storee (r:=q) rfl rfl rfl (by (repeat first|assumption|exact get_last|(refine get_last2 ?_;focus (simp;done))|apply get_set|apply get_app|(apply get_ne;focus omega)|(apply get_ne;focus (simp only [List.length_set,List.length_append,List.length_cons,List.length_nil];omega)));done) rfl rfl hsof (hsto _ _)) (bltL (by (repeat first|assumption|exact get_last|(refine get_last2 ?_;focus (simp;done))|apply get_set|apply get_app|(apply get_ne;focus omega)|(apply get_ne;focus (simp only [List.length_set,List.length_append,List.length_cons,List.length_nil];omega)));done)) ?_)
 | (apply d1 (hd:=rfl);case hop=>first|(apply D_move;rfl)|(apply D_ixC;rfl;rfl;all_goals omega)|exact D_sc (D_int rfl rfl rfl) (congrArg (Value.int IntKind.i64) htop1)|(apply D_lit;rfl;rfl;rfl;rfl))
 | (refine idDn ?_; first|refine dL _ (fun hp' hs=>D_loadB1 rfl (hs.trans (by (repeat first|assumption|exact get_last|(refine get_last2 ?_;focus (simp;done))|apply get_set|apply get_app|(apply get_ne;focus omega)|(apply get_ne;focus (simp only [List.length_set,List.length_append,List.length_cons,List.length_nil];omega)));done)) (by rfl)) rfl ?_)
                    refine WD_nilR [5,q,p + 1,rv,p + 3] [([0],none),([],none),([],none),([0],none),([],none),([],none),([],none),([1],none),([2],none),([],none),([4,3],some 4),([],none),([1],some 1)] ?_ rfl rfl (by decide +kernel) ?_
                    · simp only [List.nodup_cons,List.mem_cons,List.not_mem_nil,or_false,not_or,List.nodup_nil,and_true,not_false_eq_true];omega
                    refine tn ?_
                    refine W_rowCC q o'.length (p + 3) (els:=ndCs o ++ [[i64 hk,i64 hvk,i64 hvn,str hvs',str hss,.sl none 8 (ndCs cur),i64 hln,i64 hcl]]) (get_set (by (repeat first|assumption|exact get_last|(refine get_last2 ?_;focus (simp;done))|apply get_set|apply get_app|(apply get_ne;focus omega)|(apply get_ne;focus (simp only [List.length_set,List.length_append,List.length_cons,List.length_nil];omega)));done)) (hixc _) (get_ne hq3 (get_set hfr)) (by simp) (by simp) hq3 ?_
                    intro sp' cap' e1 e2 e3
                    repeat' first
 | refine te ?_
 | (refine idB ?_;first|refine bh rfl ?_|refine bm rfl ?_)
 | (refine W_exit ?_)
                    refine ⟨rfl,⟨.busy,none,Eq.trans (b:=some (X .busy none)) (by (repeat first|assumption|exact get_last|(refine get_last2 ?_;focus (simp;done))|apply get_set|apply get_app|(apply get_ne;focus omega)|(apply get_ne;focus (simp only [List.length_set,List.length_append,List.length_cons,List.length_nil];omega)));done) (congrArg some (hX _ _))⟩,(fun _=>⟨o',o ++ [.mk hk hvk hvn hvs' hss cur hln hcl],many,.inl ?_,hok',hm'⟩),(fun e=>nomatch e)⟩
                    rw [← hX .ready none]
                    refine PInv.turn (X:=X .busy none) ?_ _
                    have hlx : (ndCs (o ++ [.mk hk hvk hvn hvs' hss cur hln hcl])).length = (ndCs o ++ [[i64 hk,i64 hvk,i64 hvn,str hvs',str hss,.sl none 8 (ndCs cur),i64 hln,i64 hcl]]).length:=(congrArg List.length hnx).trans (by first|rfl|(rw [hnil];rfl)|(simp;done))
                    refine pinv_app hK0 t1 t2 s3 s4 s5 t6 t7 t8 t9' s10 (fun i hi hq hc=>?_) (cv':=.mc (p + 3) (ndCs (o ++ [.mk hk hvk hvn hvs' hss cur hln hcl])).length cap') ?_ (.inr ⟨p + 3,cap',sp',rfl,?_,e2,?_,?_⟩) (fun i hi=>.inr (by rw [mcP,List.mem_singleton] at hi;omega)) hcnt
                    · have hir : p + 3 ≠ i:=by omega
                      repeat first|rw [List.getElem?_set_ne (Ne.symm hq)]|rw [List.getElem?_set_ne hir]
                      exact List.getElem?_append_left hi
                    · refine Eq.trans (by (repeat first|assumption|exact get_last|(refine get_last2 ?_;focus (simp;done))|apply get_set|apply get_app|(apply get_ne;focus omega)|(apply get_ne;focus (simp only [List.length_set,List.length_append,List.length_cons,List.length_nil];omega)));done) ?_
                      rw [hset,hlx,List.length_append]
                      try rfl
                    · rw [hlx];simpa using e1
                    · refine Eq.trans (by (repeat first|assumption|exact get_last|(refine get_last2 ?_;focus (simp;done))|apply get_set|apply get_app|(apply get_ne;focus omega)|(apply get_ne;focus (simp only [List.length_set,List.length_append,List.length_cons,List.length_nil];omega)));done) ?_
                      rw [hnx]
                    · rw [hnx]
                      first|exact e3|(rw [← e3];simp)
                  | true =>
                    have hq3 : q ≠ p + 3:=by omega
                    have hr3 : rv ≠ p + 3:=by omega
                    repeat' first
 | refine W_seq ?_
 | (refine idC ?_;refine cs rfl (fun _=>?_) (fun _=>?_))
 | (refine tn ?_)
                    all_goals first
                      | (exfalso;rename_i hh;exact Bool.noConfusion hh)
                      | skip
                    refine W_resv 1 ?_
                    refine W_hq (h':=K ++ [AObj.cells [.sc (.bool true)]] ++ [.free]) rfl ?_
                    have hfr : (K ++ [AObj.cells [.sc (.bool true)]] ++ [AObj.free])[p + 3]? = some .free:=by
                      have:=get_last (h:=K ++ [AObj.cells [.sc (.bool true)]]) (x:=AObj.free)
                      rw [hKl0] at this;exact this
                    refine W_draw0 rfl ?_
                    repeat' first
 | (refine idLdD ?_;refine dL q (fun _ hs=>D_loadB1 rfl (hs.trans (get_app t2)) (hix1 _)) rfl ?_)
 | (refine idLdD ?_;refine dL (p + 1) (fun _ hs=>D_loadBAe (c:=[i64 hk,i64 hvk,i64 hvn,str hvs',str hss,.sl none 8 (ndCs cur),i64 hln,i64 hcl]) rfl (hs.trans (get_app hN0)) (by simp) rfl) rfl ?_)
 | (refine idApD rfl ?_;refine dV2 (S_appN1 (els:=ndCs o) (els':=[[.sc (.int .i64 0),.sc (.int .i64 0),.sc (.int .i64 0),str [],str [],nilV,.sc (.int .i64 0),.sc (.int .i64 0)]]) (sp:=sp) (p + 3) rfl rfl hfr (get_app v4) rfl (by simp only [List.length_cons,List.length_nil];omega) (by simp) rfl (ndCs_w _) hccf rfl (by simp only [List.length_cons,List.length_nil];omega) (by simp only [List.length_cons,List.length_nil];omega)) (bltL hfr) rfl ?_)
 | (refine idStD ?_;refine dS (S_storee (r:=q) rfl rfl rfl (by (repeat first|assumption|exact get_last|(refine get_last2 ?_;focus (simp;done))|apply get_set|apply get_app|(apply get_ne;focus omega)|(apply get_ne;focus (simp only [List.length_set,List.length_append,List.length_cons,List.length_nil];omega)));done) rfl rfl hsof (hsto _ _)) (bltL (by (repeat first|assumption|exact get_last|(refine get_last2 ?_;focus (simp;done))|apply get_set|apply get_app|(apply get_ne;focus omega)|(apply get_ne;focus (simp only [List.length_set,List.length_append,List.length_cons,List.length_nil];omega)));done)) ?_)
 | (apply d1 (hd:=rfl);case hop=>first|(apply D_move;rfl)|(apply D_lenC;rfl)|(apply D_ixC;rfl;rfl;all_goals omega)|exact D_litA rfl rfl|exact D_sc (D_int rfl rfl rfl) (congrArg (Value.int IntKind.i64) htop1))
 | (refine idDn ?_; first|refine dL _ (fun hp' hs=>D_loadB1 rfl (hs.trans (by (repeat first|assumption|exact get_last|(refine get_last2 ?_;focus (simp;done))|apply get_set|apply get_app|(apply get_ne;focus omega)|(apply get_ne;focus (simp only [List.length_set,List.length_append,List.length_cons,List.length_nil];omega)));done)) (by rfl)) rfl ?_)
                    refine WD_nilR [5,q,p + 1,rv,p + 3] [([0],none),([],none),([],none),([0],none),([],none),([],none),([],none),([1],none),([2],none),([],none),([],none),([4,3],some 4),([],none),([1],some 1)] ?_ rfl rfl (by decide +kernel) ?_
                    · simp only [List.nodup_cons,List.mem_cons,List.not_mem_nil,or_false,not_or,List.nodup_nil,and_true,not_false_eq_true];omega
                    refine tn ?_
                    refine W_rowCCt 105 q o'.length (p + 3) (els:=ndCs o ++ [[.sc (.int .i64 0),.sc (.int .i64 0),.sc (.int .i64 0),str [],str [],nilV,.sc (.int .i64 0),.sc (.int .i64 0)]]) rfl (get_set (by (repeat first|assumption|exact get_last|(refine get_last2 ?_;focus (simp;done))|apply get_set|apply get_app|(apply get_ne;focus omega)|(apply get_ne;focus (simp only [List.length_set,List.length_append,List.length_cons,List.length_nil];omega)));done)) (hixc _) (get_ne hq3 (get_set hfr)) (by simp) (by simp) hq3 ?_
                    intro sp' cap' e1 e2 e3
                    have hof : (((ndCs o).length : Nat) : Int).toNat * 8 + 8 ≤ ((ndCs o ++ [[.sc (.int .i64 0),.sc (.int .i64 0),.sc (.int .i64 0),str [],str [],nilV,.sc (.int .i64 0),.sc (.int .i64 0)]]).flatten ++ sp').length:=by
                      show (ndCs o).length * 8 + 8 ≤ _
                      simp only [List.flatten_append,List.flatten_cons,List.flatten_nil,List.append_nil,List.length_append,hccf,List.length_cons,List.length_nil];omega
                    have hst2 : ((ndCs o ++ [[.sc (.int .i64 0),.sc (.int .i64 0),.sc (.int .i64 0),str [],str [],nilV,.sc (.int .i64 0),.sc (.int .i64 0)]]).flatten ++ sp').take ((((ndCs o).length : Nat) : Int).toNat * 8) ++ [i64 hk,i64 hvk,i64 hvn,str hvs',str hss,.sl none 8 (ndCs cur),i64 hln,i64 hcl] ++ ((ndCs o ++ [[.sc (.int .i64 0),.sc (.int .i64 0),.sc (.int .i64 0),str [],str [],nilV,.sc (.int .i64 0),.sc (.int .i64 0)]]).flatten ++ sp').drop ((((ndCs o).length : Nat) : Int).toNat * 8 + 8) = (ndCs (o ++ [.mk hk hvk hvn hvs' hss cur hln hcl])).flatten ++ sp':=by
                      show ((ndCs o ++ [[.sc (.int .i64 0),.sc (.int .i64 0),.sc (.int .i64 0),str [],str [],nilV,.sc (.int .i64 0),.sc (.int .i64 0)]]).flatten ++ sp').take ((ndCs o).length * 8) ++ [i64 hk,i64 hvk,i64 hvn,str hvs',str hss,.sl none 8 (ndCs cur),i64 hln,i64 hcl] ++ ((ndCs o ++ [[.sc (.int .i64 0),.sc (.int .i64 0),.sc (.int .i64 0),str [],str [],nilV,.sc (.int .i64 0),.sc (.int .i64 0)]]).flatten ++ sp').drop ((ndCs o).length * 8 + 8) = _
                      rw [hnx]
                      rw [List.flatten_append,List.append_assoc (ndCs o).flatten,List.take_left' hccf,← List.drop_drop,List.drop_left' hccf,List.flatten_append];simp
                    repeat' first
 | (refine idStL ?_;refine pS (S_storee (r:=(p + 3)) rfl rfl rfl (by (repeat first|assumption|exact get_last|(refine get_last2 ?_;focus (simp;done))|apply get_set|apply get_app|(apply get_ne;focus omega)|(apply get_ne;focus (simp only [List.length_set,List.length_append,List.length_cons,List.length_nil];omega)));done) rfl rfl hof hst2) ?_)
 | (apply p1 (hd:=rfl);case hop=>first|(apply D_ixC;rfl;rfl;all_goals (first|omega|(simp only [List.length_append,List.length_cons,List.length_nil];omega))))
 | refine W_region ?_
 | refine WL_nil ?_
 | refine tn ?_
 | refine te ?_
 | (refine idB ?_;first|refine bh rfl ?_|refine bm rfl ?_)
 | (refine W_exit ?_)
                    refine ⟨rfl,⟨.busy,none,Eq.trans (b:=some (X .busy none)) (by (repeat first|assumption|exact get_last|(refine get_last2 ?_;focus (simp;done))|apply get_set|apply get_app|(apply get_ne;focus omega)|(apply get_ne;focus (simp only [List.length_set,List.length_append,List.length_cons,List.length_nil];omega)));done) (congrArg some (hX _ _))⟩,(fun _=>⟨o',o ++ [.mk hk hvk hvn hvs' hss cur hln hcl],many,.inl ?_,hok',hm'⟩),(fun e=>nomatch e)⟩
                    rw [← hX .ready none]
                    refine PInv.turn (X:=X .busy none) ?_ _
                    have hlx : (ndCs (o ++ [.mk hk hvk hvn hvs' hss cur hln hcl])).length = (ndCs o ++ [[.sc (.int .i64 0),.sc (.int .i64 0),.sc (.int .i64 0),str [],str [],nilV,.sc (.int .i64 0),.sc (.int .i64 0)]]).length:=(congrArg List.length hnx).trans (by first|rfl|(rw [hnil];rfl)|(simp;done))
                    refine pinv_app hK0 t1 t2 s3 s4 s5 t6 t7 t8 t9' s10 (fun i hi hq hc=>?_) (cv':=.mc (p + 3) (ndCs (o ++ [.mk hk hvk hvn hvs' hss cur hln hcl])).length cap') ?_ (.inr ⟨p + 3,cap',sp',rfl,?_,e2,?_,?_⟩) (fun i hi=>.inr (by rw [mcP,List.mem_singleton] at hi;omega)) hcnt
                    · have hir : p + 3 ≠ i:=by omega
                      repeat first|rw [List.getElem?_set_ne (Ne.symm hq)]|rw [List.getElem?_set_ne hir]
                      exact List.getElem?_append_left hi
                    · refine Eq.trans (by (repeat first|assumption|exact get_last|(refine get_last2 ?_;focus (simp;done))|apply get_set|apply get_app|(apply get_ne;focus omega)|(apply get_ne;focus (simp only [List.length_set,List.length_append,List.length_cons,List.length_nil];omega)));done) ?_
                      rw [hset,hlx,List.length_append]
                      try rfl
                    · rw [hlx];simpa using e1
                    · exact (by (repeat first|assumption|exact get_last|(refine get_last2 ?_;focus (simp;done))|apply get_set|apply get_app|(apply get_ne;focus omega)|(apply get_ne;focus (simp only [List.length_set,List.length_append,List.length_cons,List.length_nil];omega)));done)
                    · rw [hnx]
                      first|exact e3|(rw [← e3];simp)
            · rw [if_neg (show ¬ Nd.k (.mk hk hvk hvn hvs' hss hkids hln hcl) = 3 + (kx : Int) from hkk)] at hm
              repeat' first
 | (refine idLdL ?_;refine p1L (D_loadB1 (r:=r0) rfl (by (repeat first|assumption|exact get_last|(refine get_last2 ?_;focus (simp;done))|apply get_set|apply get_app|(apply get_ne;focus omega)|(apply get_ne;focus (simp only [List.length_set,List.length_append,List.length_cons,List.length_nil];omega)));done) hkd) rfl ?_)
 | (apply p1 (hd:=rfl);case hop=>first|(apply D_move;rfl)|(apply D_assign;rfl)|(apply D_pc hcont;rfl;exact .same rfl (.same rfl .nil))|(apply D_pc hidxc;rfl;exact .same rfl (.same rfl .nil))|(apply D_ixC;rfl;rfl;all_goals omega)|exact D_sc (D_int rfl rfl rfl) (congrArg (Value.int IntKind.i64) htop1)|exact D_sc (D_int rfl rfl rfl) (congrArg (Value.int IntKind.i64) hw3)|(apply D_pickT;rfl;rfl)|(apply D_pickF;rfl;rfl)|(apply D_int;rfl;rfl;rfl)|exact D_fldB rfl)
 | refine W_seq ?_
 | refine W_region ?_
 | (refine idC ?_;refine cs rfl (fun _=>?_) (fun _=>?_))
 | refine WL_nil ?_
 | (refine idG ?_;first|refine g0f rfl rfl rfl ?_|refine gr rfl rfl ?_|refine gs rfl rfl (fun _=>?_) (fun _=>?_))
 | refine tn ?_
 | refine bn ?_
 | refine W_skip ?_
 | (refine idLd ?_;first|refine p1L (D_loadB1 rfl (by (repeat first|assumption|exact get_last|(refine get_last2 ?_;focus (simp;done))|apply get_set|apply get_app|(apply get_ne;focus omega)|(apply get_ne;focus (simp only [List.length_set,List.length_append,List.length_cons,List.length_nil];omega)));done) (by rfl)) rfl ?_)
 | (refine idS ?_;first|refine pS (S_store rfl rfl rfl (by (repeat first|assumption|exact get_last|(refine get_last2 ?_;focus (simp;done))|apply get_set|apply get_app|(apply get_ne;focus omega)|(apply get_ne;focus (simp only [List.length_set,List.length_append,List.length_cons,List.length_nil];omega)));done) (by rfl) (by rfl) (by rfl)) ?_)
 | (refine idW ?_;refine W_draw0 rfl ?_)
 | (apply d1 (hd:=rfl);case hop=>first|exact D_fldB rfl)
 | (refine idDn ?_;first|refine dS (S_store rfl rfl rfl (by (repeat first|assumption|exact get_last|(refine get_last2 ?_;focus (simp;done))|apply get_set|apply get_app|(apply get_ne;focus omega)|(apply get_ne;focus (simp only [List.length_set,List.length_append,List.length_cons,List.length_nil];omega)));done) (by rfl) (by rfl) (by rfl)) (bltL (by (repeat first|assumption|exact get_last|(refine get_last2 ?_;focus (simp;done))|apply get_set|apply get_app|(apply get_ne;focus omega)|(apply get_ne;focus (simp only [List.length_set,List.length_append,List.length_cons,List.length_nil];omega)));done)) ?_|refine dL _ (fun hp' hs=>D_loadB1 rfl (hs.trans (by (repeat first|assumption|exact get_last|(refine get_last2 ?_;focus (simp;done))|apply get_set|apply get_app|(apply get_ne;focus omega)|(apply get_ne;focus (simp only [List.length_set,List.length_append,List.length_cons,List.length_nil];omega)));done)) (by rfl)) rfl ?_)
              all_goals first
                | contradiction
                | (exfalso;omega)
                | skip
              refine WD_nilR [p,0,1,2,3] [([],none),([0],none),([],none),([0],none),([1],some 1),([2],some 2),([3],some 3),([4],some 4)] hndE rfl rfl (by decide +kernel) ?_
              repeat' first
 | refine tn ?_
 | refine tr ?_
 | refine br ?_
 | (refine W_ret ?_)
              refine ⟨rfl,⟨.busy,none,Eq.trans (b:=some (X .busy none)) (by (repeat first|assumption|exact get_last|(refine get_last2 ?_;focus (simp;done))|apply get_set|apply get_app|(apply get_ne;focus omega)|(apply get_ne;focus (simp only [List.length_set,List.length_append,List.length_cons,List.length_nil];omega)));done) (congrArg some (hX _ _))⟩,(fun e=>nomatch e),fun _=>?_⟩
              rw [← hX .done (some .ret),← hm]
              exact pd_err (by (repeat first|assumption|exact get_last|(refine get_last2 ?_;focus (simp;done))|apply get_set|apply get_app|(apply get_ne;focus omega)|(apply get_ne;focus (simp only [List.length_set,List.length_append,List.length_cons,List.length_nil];omega)));done) (by (repeat first|assumption|exact get_last|(refine get_last2 ?_;focus (simp;done))|apply get_set|apply get_app|(apply get_ne;focus omega)|(apply get_ne;focus (simp only [List.length_set,List.length_append,List.length_cons,List.length_nil];omega)));done) (by (repeat first|assumption|exact get_last|(refine get_last2 ?_;focus (simp;done))|apply get_set|apply get_app|(apply get_ne;focus omega)|(apply get_ne;focus (simp only [List.length_set,List.length_append,List.length_cons,List.length_nil];omega)));done) (by (repeat first|assumption|exact get_last|(refine get_last2 ?_;focus (simp;done))|apply get_set|apply get_app|(apply get_ne;focus omega)|(apply get_ne;focus (simp only [List.length_set,List.length_append,List.length_cons,List.length_nil];omega)));done) (by (repeat first|assumption|exact get_last|(refine get_last2 ?_;focus (simp;done))|apply get_set|apply get_app|(apply get_ne;focus omega)|(apply get_ne;focus (simp only [List.length_set,List.length_append,List.length_cons,List.length_nil];omega)));done) (by (repeat first|assumption|exact get_last|(refine get_last2 ?_;focus (simp;done))|apply get_set|apply get_app|(apply get_ne;focus omega)|(apply get_ne;focus (simp only [List.length_set,List.length_append,List.length_cons,List.length_nil];omega)));done)
        · have hno:=tok_no (l:=[41,93,125]) hok1 (fun x hx=>List.mem_append.2 (.inr hx)) hclm
          rw [if_neg hclm] at hm
          rw [hno] at hcont
          rw [show decide ((0 : Int) ≤ -1) = false from rfl] at hcont
          have hmany : IntKind.i64.wrap ((many : Int) + 1) = ((many + 1 : Nat) : Int):=wsucc many (by have:=hPH.lim;omega)
          by_cases hmx : 5000 < many + 1
          · rw [if_pos hmx] at hm
            repeat' first
 | (apply p1 (hd:=rfl);case hop=>first|(apply D_assign;rfl)|(apply D_pc hcont;rfl;exact .same rfl (.same rfl .nil))|exact D_sc (D_int rfl rfl rfl) (congrArg (Value.int IntKind.i64) hmany)|(apply D_int;rfl;rfl;rfl)|exact D_fldB rfl)
 | refine W_seq ?_
 | refine W_region ?_
 | (refine idC ?_;first|refine c0 rfl ?_|refine cs rfl (fun _=>?_) (fun _=>?_))
 | refine WL_nil ?_
 | refine tn ?_
 | refine bn ?_
 | refine W_skip ?_
 | (refine idLd ?_;first|refine p1L (D_loadB1 rfl (by (repeat first|assumption|exact get_last|(refine get_last2 ?_;focus (simp;done))|apply get_set|apply get_app|(apply get_ne;focus omega)|(apply get_ne;focus (simp only [List.length_set,List.length_append,List.length_cons,List.length_nil];omega)));done) (by rfl)) rfl ?_)
 | (refine idS ?_;first|refine pS (S_store rfl rfl rfl (by (repeat first|assumption|exact get_last|(refine get_last2 ?_;focus (simp;done))|apply get_set|apply get_app|(apply get_ne;focus omega)|(apply get_ne;focus (simp only [List.length_set,List.length_append,List.length_cons,List.length_nil];omega)));done) (by rfl) (by rfl) (by rfl)) ?_)
 | (refine idW ?_;refine W_draw0 rfl ?_)
 | (apply d1 (hd:=rfl);case hop=>first|exact D_fldB rfl)
 | (refine idDn ?_;first|refine dS (S_store rfl rfl rfl (by (repeat first|assumption|exact get_last|(refine get_last2 ?_;focus (simp;done))|apply get_set|apply get_app|(apply get_ne;focus omega)|(apply get_ne;focus (simp only [List.length_set,List.length_append,List.length_cons,List.length_nil];omega)));done) (by rfl) (by rfl) (by rfl)) (bltL (by (repeat first|assumption|exact get_last|(refine get_last2 ?_;focus (simp;done))|apply get_set|apply get_app|(apply get_ne;focus omega)|(apply get_ne;focus (simp only [List.length_set,List.length_append,List.length_cons,List.length_nil];omega)));done)) ?_|refine dL _ (fun hp' hs=>D_loadB1 rfl (hs.trans (by (repeat first|assumption|exact get_last|(refine get_last2 ?_;focus (simp;done))|apply get_set|apply get_app|(apply get_ne;focus omega)|(apply get_ne;focus (simp only [List.length_set,List.length_append,List.length_cons,List.length_nil];omega)));done)) (by rfl)) rfl ?_)
            all_goals first
              | (exfalso;omega)
              | (exfalso;rename_i hh;exact Bool.noConfusion hh)
              | skip
            refine WD_nilR [p,0,1,2,3] [([],none),([0],none),([],none),([0],none),([1],some 1),([2],some 2),([3],some 3),([4],some 4)] hndE rfl rfl (by decide +kernel) ?_
            repeat' first
 | refine tn ?_
 | refine tr ?_
 | refine br ?_
 | (refine W_ret ?_)
            refine ⟨rfl,⟨.busy,none,Eq.trans (b:=some (X .busy none)) (by (repeat first|assumption|exact get_last|(refine get_last2 ?_;focus (simp;done))|apply get_set|apply get_app|(apply get_ne;focus omega)|(apply get_ne;focus (simp only [List.length_set,List.length_append,List.length_cons,List.length_nil];omega)));done) (congrArg some (hX _ _))⟩,(fun e=>nomatch e),fun _=>?_⟩
            rw [← hX .done (some .ret),← hm]
            exact pd_err (by (repeat first|assumption|exact get_last|(refine get_last2 ?_;focus (simp;done))|apply get_set|apply get_app|(apply get_ne;focus omega)|(apply get_ne;focus (simp only [List.length_set,List.length_append,List.length_cons,List.length_nil];omega)));done) (by (repeat first|assumption|exact get_last|(refine get_last2 ?_;focus (simp;done))|apply get_set|apply get_app|(apply get_ne;focus omega)|(apply get_ne;focus (simp only [List.length_set,List.length_append,List.length_cons,List.length_nil];omega)));done) (by (repeat first|assumption|exact get_last|(refine get_last2 ?_;focus (simp;done))|apply get_set|apply get_app|(apply get_ne;focus omega)|(apply get_ne;focus (simp only [List.length_set,List.length_append,List.length_cons,List.length_nil];omega)));done) (by (repeat first|assumption|exact get_last|(refine get_last2 ?_;focus (simp;done))|apply get_set|apply get_app|(apply get_ne;focus omega)|(apply get_ne;focus (simp only [List.length_set,List.length_append,List.length_cons,List.length_nil];omega)));done) (by (repeat first|assumption|exact get_last|(refine get_last2 ?_;focus (simp;done))|apply get_set|apply get_app|(apply get_ne;focus omega)|(apply get_ne;focus (simp only [List.length_set,List.length_append,List.length_cons,List.length_nil];omega)));done) (by (repeat first|assumption|exact get_last|(refine get_last2 ?_;focus (simp;done))|apply get_set|apply get_app|(apply get_ne;focus omega)|(apply get_ne;focus (simp only [List.length_set,List.length_append,List.length_cons,List.length_nil];omega)));done)
          rw [if_neg hmx] at hm
          by_cases hopm : r = [] ∧ c ∈ opn
          · obtain ⟨rfl,hom⟩:=hopm
            rw [if_pos ⟨rfl,hom⟩,List.length_reverse] at hm
            rw [ix_of hom] at hidxo
            by_cases h50 : out.length = 50
            · rw [if_pos h50] at hm
              repeat' first
 | (apply p1 (hd:=rfl);case hop=>first|(apply D_move;rfl)|(apply D_assign;rfl)|(apply D_pc hcont;rfl;exact .same rfl (.same rfl .nil))|(apply D_pc hidxo;rfl;exact .same rfl (.same rfl .nil))|exact D_sc (D_int rfl rfl rfl) (congrArg (Value.int IntKind.i64) hmany)|(apply D_int;rfl;rfl;rfl)|exact D_fldB rfl)
 | refine W_seq ?_
 | refine W_region ?_
 | (refine idC ?_;first|refine c0 rfl ?_|refine cs rfl (fun _=>?_) (fun _=>?_))
 | refine WL_nil ?_
 | refine tn ?_
 | refine bn ?_
 | refine W_skip ?_
 | (refine idLd ?_;first|refine p1L (D_loadB1 rfl (by (repeat first|assumption|exact get_last|(refine get_last2 ?_;focus (simp;done))|apply get_set|apply get_app|(apply get_ne;focus omega)|(apply get_ne;focus (simp only [List.length_set,List.length_append,List.length_cons,List.length_nil];omega)));done) (by rfl)) rfl ?_)
 | (refine idS ?_;first|refine pS (S_store rfl rfl rfl (by (repeat first|assumption|exact get_last|(refine get_last2 ?_;focus (simp;done))|apply get_set|apply get_app|(apply get_ne;focus omega)|(apply get_ne;focus (simp only [List.length_set,List.length_append,List.length_cons,List.length_nil];omega)));done) (by rfl) (by rfl) (by rfl)) ?_)
 | (refine idW ?_;refine W_draw0 rfl ?_)
 | (apply d1 (hd:=rfl);case hop=>first|(apply D_lit;rfl;rfl;rfl;rfl)|exact D_fldB rfl)
 | (refine idDn ?_;first|refine dS (S_store rfl rfl rfl (by (repeat first|assumption|exact get_last|(refine get_last2 ?_;focus (simp;done))|apply get_set|apply get_app|(apply get_ne;focus omega)|(apply get_ne;focus (simp only [List.length_set,List.length_append,List.length_cons,List.length_nil];omega)));done) (by rfl) (by rfl) (by rfl)) (bltL (by (repeat first|assumption|exact get_last|(refine get_last2 ?_;focus (simp;done))|apply get_set|apply get_app|(apply get_ne;focus omega)|(apply get_ne;focus (simp only [List.length_set,List.length_append,List.length_cons,List.length_nil];omega)));done)) ?_|refine dL _ (fun hp' hs=>D_loadB1 rfl (hs.trans (by (repeat first|assumption|exact get_last|(refine get_last2 ?_;focus (simp;done))|apply get_set|apply get_app|(apply get_ne;focus omega)|(apply get_ne;focus (simp only [List.length_set,List.length_append,List.length_cons,List.length_nil];omega)));done)) (by rfl)) rfl ?_)
              all_goals first
                | (exfalso;omega)
                | (exfalso;rename_i hh;exact Bool.noConfusion hh)
                | skip
              refine WD_nilR [p,0,1,2,3] [([],none),([0],none),([],none),([0],none),([1],some 1),([2],some 2),([3],some 3),([4],some 4)] hndE rfl rfl (by decide +kernel) ?_
              repeat' first
 | refine tn ?_
 | refine tr ?_
 | refine br ?_
 | (refine W_ret ?_)
              refine ⟨rfl,⟨.busy,none,Eq.trans (b:=some (X .busy none)) (by (repeat first|assumption|exact get_last|(refine get_last2 ?_;focus (simp;done))|apply get_set|apply get_app|(apply get_ne;focus omega)|(apply get_ne;focus (simp only [List.length_set,List.length_append,List.length_cons,List.length_nil];omega)));done) (congrArg some (hX _ _))⟩,(fun e=>nomatch e),fun _=>?_⟩
              rw [← hX .done (some .ret),← hm]
              exact pd_err (by (repeat first|assumption|exact get_last|(refine get_last2 ?_;focus (simp;done))|apply get_set|apply get_app|(apply get_ne;focus omega)|(apply get_ne;focus (simp only [List.length_set,List.length_append,List.length_cons,List.length_nil];omega)));done) (by (repeat first|assumption|exact get_last|(refine get_last2 ?_;focus (simp;done))|apply get_set|apply get_app|(apply get_ne;focus omega)|(apply get_ne;focus (simp only [List.length_set,List.length_append,List.length_cons,List.length_nil];omega)));done) (by (repeat first|assumption|exact get_last|(refine get_last2 ?_;focus (simp;done))|apply get_set|apply get_app|(apply get_ne;focus omega)|(apply get_ne;focus (simp only [List.length_set,List.length_append,List.length_cons,List.length_nil];omega)));done) (by (repeat first|assumption|exact get_last|(refine get_last2 ?_;focus (simp;done))|apply get_set|apply get_app|(apply get_ne;focus omega)|(apply get_ne;focus (simp only [List.length_set,List.length_append,List.length_cons,List.length_nil];omega)));done) (by (repeat first|assumption|exact get_last|(refine get_last2 ?_;focus (simp;done))|apply get_set|apply get_app|(apply get_ne;focus omega)|(apply get_ne;focus (simp only [List.length_set,List.length_append,List.length_cons,List.length_nil];omega)));done) (by (repeat first|assumption|exact get_last|(refine get_last2 ?_;focus (simp;done))|apply get_set|apply get_app|(apply get_ne;focus omega)|(apply get_ne;focus (simp only [List.length_set,List.length_append,List.length_cons,List.length_nil];omega)));done)
            · rw [if_neg h50] at hm
              have hk3 : opn.idxOf c < 3:=List.idxOf_lt_length_of_mem hom
              rw [show opnN c tl tc [] = Nd.mk (3 + ((opn.idxOf c : Nat) : Int)) 0 0 [] [] [] (tl : Int) (tc : Int) from rfl] at hm
              generalize opn.idxOf c = kx at *
              have hw3 : IntKind.i64.wrap (3 + (kx : Int)) = 3 + (kx : Int):=by rw [w64 _ (by omega) (by omega)]
              repeat' first
 | (apply p1 (hd:=rfl);case hop=>first|(apply D_move;rfl)|(apply D_assign;rfl)|(apply D_pc hcont;rfl;exact .same rfl (.same rfl .nil))|(apply D_pc hidxo;rfl;exact .same rfl (.same rfl .nil))|exact D_sc (D_int rfl rfl rfl) (congrArg (Value.int IntKind.i64) hmany)|exact D_sc (D_int rfl rfl rfl) (congrArg (Value.int IntKind.i64) hw3)|(apply D_int;rfl;rfl;rfl)|exact D_fldB rfl)
 | refine W_seq ?_
 | refine W_region ?_
 | (refine idC ?_;first|refine c0 rfl ?_|refine cs rfl (fun _=>?_) (fun _=>?_))
 | refine WL_nil ?_
 | refine tn ?_
 | refine bn ?_
 | refine W_skip ?_
 | (refine idLd ?_;first|refine p1L (D_loadB1 rfl (by (repeat first|assumption|exact get_last|(refine get_last2 ?_;focus (simp;done))|apply get_set|apply get_app|(apply get_ne;focus omega)|(apply get_ne;focus (simp only [List.length_set,List.length_append,List.length_cons,List.length_nil];omega)));done) (by rfl)) rfl ?_)
 | (refine idS ?_;first|refine pS (S_store rfl rfl rfl (by (repeat first|assumption|exact get_last|(refine get_last2 ?_;focus (simp;done))|apply get_set|apply get_app|(apply get_ne;focus omega)|(apply get_ne;focus (simp only [List.length_set,List.length_append,List.length_cons,List.length_nil];omega)));done) (by rfl) (by rfl) (by rfl)) ?_)
              all_goals first
                | (exfalso;omega)
                | (exfalso;rename_i hh;exact Bool.noConfusion hh)
                | skip
              refine W_weak (s':=⟨[(6,.bp 5 0),(7,.bp 6 0),(10,i64 (out.length : Int)),(11,.bp (p + 1) 0)],_,⟨[],_⟩⟩) ⟨⟨rfl,rfl,rfl,rfl,trivial⟩,rfl,rfl⟩ ?_
              refine W_gen fun K hK=>?_
              have hP7:=hPH.many (m':=many + 1) (by omega) (by omega)
              have hKl : K.length = p + 2:=by rw [hK];simp [hHl]
              have hPK : PInv (X .busy none) out cur (many + 1) K:=by
                rw [hK]
                repeat refine PInv.node ?_ (by (repeat first|assumption|exact get_last|(refine get_last2 ?_;focus (simp;done))|apply get_set|apply get_app|(apply get_ne;focus omega)|(apply get_ne;focus (simp only [List.length_set,List.length_append,List.length_cons,List.length_nil];omega)));done) (by first|omega|(simp only [List.length_set,List.length_append,List.length_cons,List.length_nil];omega)) _
                exact hP7
              have hNK : K[p + 1]? = some (.cells [i64 (3 + (kx : Int)),i64 0,i64 0,str [],str [],.sl none 8 [],i64 (tl : Int),i64 (tc : Int)]):=by
                rw [hK];exact (by (repeat first|assumption|exact get_last|(refine get_last2 ?_;focus (simp;done))|apply get_set|apply get_app|(apply get_ne;focus omega)|(apply get_ne;focus (simp only [List.length_set,List.length_append,List.length_cons,List.length_nil];omega)));done)
              have hcn:=hPH.cnt
              have hcnt : cur.length + 1 + cntL out ≤ many + 1:=by omega
              have hm' : mach leafT ts [] (out ++ [(cur,Nd.mk (3 + (kx : Int)) 0 0 [] [] [] (tl : Int) (tc : Int))]).reverse (many + 1) = R:=by rw [List.reverse_append];exact hm
              have h50' : out.length + 1 ≤ 50:=by omega
              clear hP7 hK hPH hT hN s1 s2 s3 s4 s5 s6 s7 s8 s9 s10 f0 f1 f2 f3 f7 f8 f9 hqn hqp hcont hidxc hidxo
              obtain ⟨hvs,cv,nv,q,qc,qs,s1,s2,s3,s4,s5,s6,s7,s8,s9,s10⟩:=hPK.sl
              have hqK:=(List.getElem?_eq_some_iff.1 s2).1
              have hqn:=ne_ty s2 hNK
              have hq5 : q ≠ 5:=(nd_base s10 (i:=5) (by decide)).1
              have hq6 : q ≠ 6:=(nd_base s10 (i:=6) (by decide)).1
              have hq9 : q ≠ 9:=(nd_base s10 (i:=9) (by decide)).1
              have k9:=hPK.a9
              have hhl : (ndCs (out.map (·.2))).length = out.length:=by rw [ndCs_len,List.length_map]
              have hhf : (ndCs (out.map (·.2))).flatten.length = (ndCs (out.map (·.2))).length * 8:=flat_len (ndCs_w _)
              have hhx : ndCs (out.map (·.2) ++ [Nd.mk (3 + (kx : Int)) 0 0 [] [] [] (tl : Int) (tc : Int)]) = ndCs (out.map (·.2)) ++ [[i64 (3 + (kx : Int)),i64 0,i64 0,str [],str [],.sl none 8 [],i64 (tl : Int),i64 (tc : Int)]]:=by rw [ndCs_app];simp [ndCs,ndC]
              have hl1 : (hvs ++ [cv] ++ qs).length = qc * 1:=by rw [s3,Nat.mul_one]
              have hlc : (hvs ++ [cv]).length = (out.length + 1) * 1:=by simp [s5]
              have hflat : ((hvs ++ [cv]).map fun v=>[v]).flatten = hvs ++ [cv]:=by
                induction (hvs ++ [cv]) with
                | nil=>rfl
                | cons a l ih=>simp only [List.map_cons,List.flatten_cons,ih];rfl
              have hmlen : ((hvs ++ [cv]).map fun v=>[v]).length = out.length + 1:=by rw [List.length_map];simp [s5]
              have hsf : K[q]? = some (.cells (((hvs ++ [cv]).map fun v=>[v]).flatten ++ qs) (some tS)):=by rw [hflat];exact s2
              have hfr2 : (K ++ [AObj.free] ++ [AObj.free])[p + 2]? = some .free:=by
                have:=get_last (h:=K) (x:=AObj.free)
                rw [hKl] at this;exact get_app this
              have hfr3 : (K ++ [AObj.free] ++ [AObj.free])[p + 3]? = some .free:=by
                have:=get_last (h:=K ++ [AObj.free]) (x:=AObj.free)
                rw [List.length_append,hKl] at this;exact this
              have hq2 : q ≠ p + 2:=by omega
              have hq3 : q ≠ p + 3:=by omega
              refine W_resv 2 ?_
              refine W_hq (h':=K ++ [.free] ++ [.free]) rfl ?_
              refine W_draw0 rfl ?_
              have s7':=s7
              by_cases hro : out.length + 1 + 1 ≤ qc
              · have hysO : (hvs ++ [cv] ++ qs).take ((out.length + 1) * 1) ++ [[nilV]].flatten ++ (hvs ++ [cv] ++ qs).drop ((out.length + 1) * 1 + [[nilV]].flatten.length) = hvs ++ [cv] ++ [nilV] ++ qs.drop 1:=by
                  rw [List.take_left' hlc,← List.drop_drop,List.drop_left' hlc];rfl
                rcases s7 with ⟨rfl,hnil⟩ | ⟨rv,cap,sp,rfl,v2,v3,v4,v5⟩
                · have ho0 : out.length = 0:=by rw [← hhl,hnil];rfl
                  repeat' first
 | (refine idApD rfl ?_;refine dV (S_appCe (els':=[[nilV]]) rfl rfl (get_app (get_app s2)) hl1 (by simp) (by simp only [List.length_cons,List.length_nil];omega) hysO) (bltL (get_app (get_app s2))) rfl ?_)
 | (refine idApD rfl ?_;refine dV (S_appN0 (els':=[[i64 (3 + (kx : Int)),i64 0,i64 0,str [],str [],.sl none 8 [],i64 (tl : Int),i64 (tc : Int)]]) (p + 3) rfl rfl (by (repeat first|assumption|exact get_last|(refine get_last2 ?_;focus (simp;done))|apply get_set|apply get_app|(apply get_ne;focus omega)|(apply get_ne;focus (simp only [List.length_set,List.length_append,List.length_cons,List.length_nil];omega)));done) (by simp) rfl rfl (by simp) (by simp)) (bltL (by (repeat first|assumption|exact get_last|(refine get_last2 ?_;focus (simp;done))|apply get_set|apply get_app|(apply get_ne;focus omega)|(apply get_ne;focus (simp only [List.length_set,List.length_append,List.length_cons,List.length_nil];omega)));done)) rfl ?_)
 | (apply d1 (hd:=rfl);case hop=>first|(apply D_lit;rfl;rfl;rfl;rfl))
 | (refine idDn ?_;first|refine dS (S_store rfl rfl rfl (by (repeat first|assumption|exact get_last|(refine get_last2 ?_;focus (simp;done))|apply get_set|apply get_app|(apply get_ne;focus omega)|(apply get_ne;focus (simp only [List.length_set,List.length_append,List.length_cons,List.length_nil];omega)));done) (by rfl) (by rfl) (by rfl)) (bltL (by (repeat first|assumption|exact get_last|(refine get_last2 ?_;focus (simp;done))|apply get_set|apply get_app|(apply get_ne;focus omega)|(apply get_ne;focus (simp only [List.length_set,List.length_append,List.length_cons,List.length_nil];omega)));done)) ?_|refine dL _ (fun hp' hs=>D_loadB1 rfl (hs.trans (by (repeat first|assumption|exact get_last|(refine get_last2 ?_;focus (simp;done))|apply get_set|apply get_app|(apply get_ne;focus omega)|(apply get_ne;focus (simp only [List.length_set,List.length_append,List.length_cons,List.length_nil];omega)));done)) (by rfl)) rfl ?_|refine dL _ (fun hp' hs=>D_loadBA rfl (hs.trans (by (repeat first|assumption|exact get_last|(refine get_last2 ?_;focus (simp;done))|apply get_set|apply get_app|(apply get_ne;focus omega)|(apply get_ne;focus (simp only [List.length_set,List.length_append,List.length_cons,List.length_nil];omega)));done)) (by rfl)) rfl ?_)
                  refine WD_nilR [5,6,p + 1,q,p + 2,p + 3] [([0],none),([],none),([3],some 3),([1],none),([2],none),([],none),([5],some 5),([0],some 0),([1],some 1)] ?_ rfl rfl (by decide +kernel) ?_
                  · simp only [List.nodup_cons,List.mem_cons,List.not_mem_nil,or_false,not_or,List.nodup_nil,and_true,not_false_eq_true];omega
                  refine tn ?_
                  refine W_rowCC 6 0 (p + 3) (els:=[[i64 (3 + (kx : Int)),i64 0,i64 0,str [],str [],.sl none 8 [],i64 (tl : Int),i64 (tc : Int)]]) (xs:=[rowA (p + 3) 1]) (by (repeat first|assumption|exact get_last|(refine get_last2 ?_;focus (simp;done))|apply get_set|apply get_app|(apply get_ne;focus omega)|(apply get_ne;focus (simp only [List.length_set,List.length_append,List.length_cons,List.length_nil];omega)));done) rfl (by (repeat first|assumption|exact get_last|(refine get_last2 ?_;focus (simp;done))|apply get_set|apply get_app|(apply get_ne;focus omega)|(apply get_ne;focus (simp only [List.length_set,List.length_append,List.length_cons,List.length_nil];omega)));done) (by simp) (by simp) (by omega) ?_
                  intro sr cr e1 e2 e3
                  repeat' first
 | refine te ?_
 | (refine idB ?_;refine bh rfl ?_)
 | (refine W_exit ?_)
                  refine ⟨rfl,⟨.busy,none,Eq.trans (b:=some (X .busy none)) (by (repeat first|assumption|exact get_last|(refine get_last2 ?_;focus (simp;done))|apply get_set|apply get_app|(apply get_ne;focus omega)|(apply get_ne;focus (simp only [List.length_set,List.length_append,List.length_cons,List.length_nil];omega)));done) (congrArg some (hX _ _))⟩,(fun _=>⟨out ++ [(cur,Nd.mk (3 + (kx : Int)) 0 0 [] [] [] (tl : Int) (tc : Int))],[],many + 1,.inl ?_,hok',hm'⟩),(fun e=>nomatch e)⟩
                  rw [← hX .ready none]
                  refine PInv.turn (X:=X .busy none) ?_ _
                  refine pinv_push (qc:=qc) (q':=q) (qc':=qc) (qs':=qs.drop 1) (nv':=.mc (p + 3) 1 cr) hPK s2 s5 s7' s8 s9 s10 (fun i hi h5 h6 hq hc=>?_) (by (repeat first|assumption|exact get_last|(refine get_last2 ?_;focus (simp;done))|apply get_set|apply get_app|(apply get_ne;focus omega)|(apply get_ne;focus (simp only [List.length_set,List.length_append,List.length_cons,List.length_nil];omega)));done) ?_ ?_ s4 (by (repeat first|assumption|exact get_last|(refine get_last2 ?_;focus (simp;done))|apply get_set|apply get_app|(apply get_ne;focus omega)|(apply get_ne;focus (simp only [List.length_set,List.length_append,List.length_cons,List.length_nil];omega)));done) ?_ (.inl rfl) (fun i hi=>.inr ?_) h50' hcnt
                  · have i2 : p + 2 ≠ i:=by omega
                    have i3 : p + 3 ≠ i:=by omega
                    skip
                    repeat first|rw [List.getElem?_set_ne (Ne.symm h5)]|rw [List.getElem?_set_ne (Ne.symm h6)]|rw [List.getElem?_set_ne (Ne.symm hq)]|rw [List.getElem?_set_ne i2]|rw [List.getElem?_set_ne i3]
                    rw [List.getElem?_append_left (by rw [List.length_append];omega)]
                    exact List.getElem?_append_left hi
                  · exact (by (repeat first|assumption|exact get_last|(refine get_last2 ?_;focus (simp;done))|apply get_set|apply get_app|(apply get_ne;focus omega)|(apply get_ne;focus (simp only [List.length_set,List.length_append,List.length_cons,List.length_nil];omega)));done)
                  · simp only [List.length_append,List.length_drop,List.length_cons,List.length_nil] at s3 ⊢;omega
                  · refine .inr ⟨p + 3,cr,sr,?_,?_,e2,?_,?_⟩
                    · rw [hhx,List.length_append,hhl,ho0];rfl
                    · rw [hhx,List.length_append,hhl];simp only [List.length_cons,List.length_nil];omega
                    · refine Eq.trans (by (repeat first|assumption|exact get_last|(refine get_last2 ?_;focus (simp;done))|apply get_set|apply get_app|(apply get_ne;focus omega)|(apply get_ne;focus (simp only [List.length_set,List.length_append,List.length_cons,List.length_nil];omega)));done) ?_
                      rw [hhx];simp [hnil]
                    · rw [hhx]
                      first|exact e3|(rw [← e3];simp [hnil])
                  · rw [mcP,List.mem_singleton] at hi;omega
                · rw [hhl] at s6 v2
                  obtain ⟨hrb,hrq⟩:=s10.d2 rv (by rw [mcP];exact .head _)
                  have hr5 : rv ≠ 5:=fun e=>hrb (by rw [e];decide)
                  have hr6 : rv ≠ 6:=fun e=>hrb (by rw [e];decide)
                  have hr9 : rv ≠ 9:=fun e=>hrb (by rw [e];decide)
                  have hrn:=ne_ty v4 hNK
                  have hrK:=(List.getElem?_eq_some_iff.1 v4).1
                  have hr2 : rv ≠ p + 2:=by omega
                  have hr3 : rv ≠ p + 3:=by omega
                  have hi2 : ∀ i,i ∈ mcP (.mc rv (out.length + 1) cap) → i ∈ mcP (.mc rv (ndCs (out.map (·.2))).length cap):=fun i hi=>hi
                  by_cases hrh : out.length + 1 ≤ cap
                  · have hsp8 : 8 ≤ sp.length:=by
                      simp only [List.length_append,hhf,hhl] at v5;omega
                    have hys : ((ndCs (out.map (·.2))).flatten ++ sp).take (out.length * 8) ++ [[i64 (3 + (kx : Int)),i64 0,i64 0,str [],str [],.sl none 8 [],i64 (tl : Int),i64 (tc : Int)]].flatten ++ ((ndCs (out.map (·.2))).flatten ++ sp).drop (out.length * 8 + [[i64 (3 + (kx : Int)),i64 0,i64 0,str [],str [],.sl none 8 [],i64 (tl : Int),i64 (tc : Int)]].flatten.length) = (ndCs (out.map (·.2) ++ [Nd.mk (3 + (kx : Int)) 0 0 [] [] [] (tl : Int) (tc : Int)])).flatten ++ sp.drop 8:=by
                      have hhf' : (ndCs (out.map (·.2))).flatten.length = out.length * 8:=by rw [hhf,hhl]
                      rw [hhx,List.take_left' hhf',← List.drop_drop,List.drop_left' hhf',List.flatten_append];rfl
                    repeat' first
 | (refine idApD rfl ?_;refine dV (S_appCe (els':=[[nilV]]) rfl rfl (get_app (get_app s2)) hl1 (by simp) (by simp only [List.length_cons,List.length_nil];omega) hysO) (bltL (get_app (get_app s2))) rfl ?_)
 | (refine idApD rfl ?_;refine dV (S_appCe (els':=[[i64 (3 + (kx : Int)),i64 0,i64 0,str [],str [],.sl none 8 [],i64 (tl : Int),i64 (tc : Int)]]) rfl rfl (xs:=(ndCs (out.map (·.2))).flatten ++ sp) (by (repeat first|assumption|exact get_last|(refine get_last2 ?_;focus (simp;done))|apply get_set|apply get_app|(apply get_ne;focus omega)|(apply get_ne;focus (simp only [List.length_set,List.length_append,List.length_cons,List.length_nil];omega)));done) v5 (by simp) (by simp only [List.length_cons,List.length_nil];omega) hys) (bltL (by (repeat first|assumption|exact get_last|(refine get_last2 ?_;focus (simp;done))|apply get_set|apply get_app|(apply get_ne;focus omega)|(apply get_ne;focus (simp only [List.length_set,List.length_append,List.length_cons,List.length_nil];omega)));done)) rfl ?_)
 | (apply d1 (hd:=rfl);case hop=>first|(apply D_lit;rfl;rfl;rfl;rfl))
 | (refine idDn ?_; first|refine dS (S_store rfl rfl rfl (by (repeat first|assumption|exact get_last|(refine get_last2 ?_;focus (simp;done))|apply get_set|apply get_app|(apply get_ne;focus omega)|(apply get_ne;focus (simp only [List.length_set,List.length_append,List.length_cons,List.length_nil];omega)));done) (by rfl) (by rfl) (by rfl)) (bltL (by (repeat first|assumption|exact get_last|(refine get_last2 ?_;focus (simp;done))|apply get_set|apply get_app|(apply get_ne;focus omega)|(apply get_ne;focus (simp only [List.length_set,List.length_append,List.length_cons,List.length_nil];omega)));done)) ?_|refine dL _ (fun hp' hs=>D_loadB1 rfl (hs.trans (by (repeat first|assumption|exact get_last|(refine get_last2 ?_;focus (simp;done))|apply get_set|apply get_app|(apply get_ne;focus omega)|(apply get_ne;focus (simp only [List.length_set,List.length_append,List.length_cons,List.length_nil];omega)));done)) (by rfl)) rfl ?_|refine dL _ (fun hp' hs=>D_loadBA rfl (hs.trans (by (repeat first|assumption|exact get_last|(refine get_last2 ?_;focus (simp;done))|apply get_set|apply get_app|(apply get_ne;focus omega)|(apply get_ne;focus (simp only [List.length_set,List.length_append,List.length_cons,List.length_nil];omega)));done)) (by rfl)) rfl ?_)
                    refine WD_nilR [5,6,p + 1,q,p + 2,p + 3,rv] [([0],none),([],none),([3],some 3),([1],none),([2],none),([],none),([6],some 6),([0],some 0),([1],some 1)] ?_ rfl rfl (by decide +kernel) ?_
                    · simp only [List.nodup_cons,List.mem_cons,List.not_mem_nil,or_false,not_or,List.nodup_nil,and_true,not_false_eq_true];omega
                    refine tn ?_
                    repeat' first
 | refine te ?_
 | (refine idB ?_;refine bh rfl ?_)
 | (refine W_exit ?_)
                    refine ⟨rfl,⟨.busy,none,Eq.trans (b:=some (X .busy none)) (by (repeat first|assumption|exact get_last|(refine get_last2 ?_;focus (simp;done))|apply get_set|apply get_app|(apply get_ne;focus omega)|(apply get_ne;focus (simp only [List.length_set,List.length_append,List.length_cons,List.length_nil];omega)));done) (congrArg some (hX _ _))⟩,(fun _=>⟨out ++ [(cur,Nd.mk (3 + (kx : Int)) 0 0 [] [] [] (tl : Int) (tc : Int))],[],many + 1,.inl ?_,hok',hm'⟩),(fun e=>nomatch e)⟩
                    rw [← hX .ready none]
                    refine PInv.turn (X:=X .busy none) ?_ _
                    refine pinv_push (qc:=qc) (q':=q) (qc':=qc) (qs':=qs.drop 1) (nv':=.mc rv (out.length + 1) cap) hPK s2 s5 s7' s8 s9 s10 (fun i hi h5 h6 hq hc=>?_) (by (repeat first|assumption|exact get_last|(refine get_last2 ?_;focus (simp;done))|apply get_set|apply get_app|(apply get_ne;focus omega)|(apply get_ne;focus (simp only [List.length_set,List.length_append,List.length_cons,List.length_nil];omega)));done) ?_ ?_ s4 (by (repeat first|assumption|exact get_last|(refine get_last2 ?_;focus (simp;done))|apply get_set|apply get_app|(apply get_ne;focus omega)|(apply get_ne;focus (simp only [List.length_set,List.length_append,List.length_cons,List.length_nil];omega)));done) ?_ (.inl rfl) (fun i hi=>.inl ⟨hi2 i hi,?_⟩) h50' hcnt
                    · have i2 : p + 2 ≠ i:=by omega
                      have i3 : p + 3 ≠ i:=by omega
                      have hir : rv ≠ i:=fun e=>hc (by rw [mcP,e];exact .head _)
                      repeat first|rw [List.getElem?_set_ne (Ne.symm h5)]|rw [List.getElem?_set_ne (Ne.symm h6)]|rw [List.getElem?_set_ne (Ne.symm hq)]|rw [List.getElem?_set_ne i2]|rw [List.getElem?_set_ne i3]|rw [List.getElem?_set_ne hir]
                      rw [List.getElem?_append_left (by rw [List.length_append];omega)]
                      exact List.getElem?_append_left hi
                    · exact (by (repeat first|assumption|exact get_last|(refine get_last2 ?_;focus (simp;done))|apply get_set|apply get_app|(apply get_ne;focus omega)|(apply get_ne;focus (simp only [List.length_set,List.length_append,List.length_cons,List.length_nil];omega)));done)
                    · simp only [List.length_append,List.length_drop,List.length_cons,List.length_nil] at s3 ⊢;omega
                    · refine .inr ⟨rv,cap,sp.drop 8,?_,?_,v3,?_,?_⟩
                      · rw [hhx,List.length_append,hhl];rfl
                      · rw [hhx,List.length_append];simp only [List.length_cons,List.length_nil];omega
                      · exact (by (repeat first|assumption|exact get_last|(refine get_last2 ?_;focus (simp;done))|apply get_set|apply get_app|(apply get_ne;focus omega)|(apply get_ne;focus (simp only [List.length_set,List.length_append,List.length_cons,List.length_nil];omega)));done)
                      · rw [hhx,List.flatten_append]
                        simp only [List.length_append,List.flatten_cons,List.flatten_nil,List.append_nil,List.length_drop,hhf,List.length_cons,List.length_nil] at v5 ⊢
                        omega
                    · rw [mcP,List.mem_singleton] at hi;rw [hi];first|exact hrq|omega
                  · skip
                    repeat' first
 | (refine idApD rfl ?_;refine dV (S_appCe (els':=[[nilV]]) rfl rfl (get_app (get_app s2)) hl1 (by simp) (by simp only [List.length_cons,List.length_nil];omega) hysO) (bltL (get_app (get_app s2))) rfl ?_)
 | (refine idApD rfl ?_;refine dV2 (S_appN1 (els:=ndCs (out.map (·.2))) (els':=[[i64 (3 + (kx : Int)),i64 0,i64 0,str [],str [],.sl none 8 [],i64 (tl : Int),i64 (tc : Int)]]) (sp:=sp) (p + 3) rfl rfl (by (repeat first|assumption|exact get_last|(refine get_last2 ?_;focus (simp;done))|apply get_set|apply get_app|(apply get_ne;focus omega)|(apply get_ne;focus (simp only [List.length_set,List.length_append,List.length_cons,List.length_nil];omega)));done) (by (repeat first|assumption|exact get_last|(refine get_last2 ?_;focus (simp;done))|apply get_set|apply get_app|(apply get_ne;focus omega)|(apply get_ne;focus (simp only [List.length_set,List.length_append,List.length_cons,List.length_nil];omega)));done) hhl.symm (by simp only [List.length_cons,List.length_nil];omega) (by simp) rfl (ndCs_w _) hhf rfl (by simp only [List.length_cons,List.length_nil];omega) (by simp only [List.length_cons,List.length_nil];omega)) (bltL (by (repeat first|assumption|exact get_last|(refine get_last2 ?_;focus (simp;done))|apply get_set|apply get_app|(apply get_ne;focus omega)|(apply get_ne;focus (simp only [List.length_set,List.length_append,List.length_cons,List.length_nil];omega)));done)) rfl ?_)
 | (apply d1 (hd:=rfl);case hop=>first|(apply D_lit;rfl;rfl;rfl;rfl))
 | (refine idDn ?_; first|refine dS (S_store rfl rfl rfl (by (repeat first|assumption|exact get_last|(refine get_last2 ?_;focus (simp;done))|apply get_set|apply get_app|(apply get_ne;focus omega)|(apply get_ne;focus (simp only [List.length_set,List.length_append,List.length_cons,List.length_nil];omega)));done) (by rfl) (by rfl) (by rfl)) (bltL (by (repeat first|assumption|exact get_last|(refine get_last2 ?_;focus (simp;done))|apply get_set|apply get_app|(apply get_ne;focus omega)|(apply get_ne;focus (simp only [List.length_set,List.length_append,List.length_cons,List.length_nil];omega)));done)) ?_|refine dL _ (fun hp' hs=>D_loadB1 rfl (hs.trans (by (repeat first|assumption|exact get_last|(refine get_last2 ?_;focus (simp;done))|apply get_set|apply get_app|(apply get_ne;focus omega)|(apply get_ne;focus (simp only [List.length_set,List.length_append,List.length_cons,List.length_nil];omega)));done)) (by rfl)) rfl ?_|refine dL _ (fun hp' hs=>D_loadBA rfl (hs.trans (by (repeat first|assumption|exact get_last|(refine get_last2 ?_;focus (simp;done))|apply get_set|apply get_app|(apply get_ne;focus omega)|(apply get_ne;focus (simp only [List.length_set,List.length_append,List.length_cons,List.length_nil];omega)));done)) (by rfl)) rfl ?_)
                    refine WD_nilR [5,6,p + 1,q,p + 2,p + 3,rv] [([0],none),([],none),([3],some 3),([1],none),([2],none),([],none),([5,6],some 5),([0],some 0),([1],some 1)] ?_ rfl rfl (by decide +kernel) ?_
                    · simp only [List.nodup_cons,List.mem_cons,List.not_mem_nil,or_false,not_or,List.nodup_nil,and_true,not_false_eq_true];omega
                    refine tn ?_
                    refine W_rowCC 6 0 (p + 3) (els:=ndCs (out.map (·.2)) ++ [[i64 (3 + (kx : Int)),i64 0,i64 0,str [],str [],.sl none 8 [],i64 (tl : Int),i64 (tc : Int)]]) (xs:=[rowA (p + 3) (out.length + 1)]) (by (repeat first|assumption|exact get_last|(refine get_last2 ?_;focus (simp;done))|apply get_set|apply get_app|(apply get_ne;focus omega)|(apply get_ne;focus (simp only [List.length_set,List.length_append,List.length_cons,List.length_nil];omega)));done) rfl (by (repeat first|assumption|exact get_last|(refine get_last2 ?_;focus (simp;done))|apply get_set|apply get_app|(apply get_ne;focus omega)|(apply get_ne;focus (simp only [List.length_set,List.length_append,List.length_cons,List.length_nil];omega)));done) (by simp [hhl]) (by simp) (by omega) ?_
                    intro sr cr e1 e2 e3
                    repeat' first
 | refine te ?_
 | (refine idB ?_;refine bh rfl ?_)
 | (refine W_exit ?_)
                    refine ⟨rfl,⟨.busy,none,Eq.trans (b:=some (X .busy none)) (by (repeat first|assumption|exact get_last|(refine get_last2 ?_;focus (simp;done))|apply get_set|apply get_app|(apply get_ne;focus omega)|(apply get_ne;focus (simp only [List.length_set,List.length_append,List.length_cons,List.length_nil];omega)));done) (congrArg some (hX _ _))⟩,(fun _=>⟨out ++ [(cur,Nd.mk (3 + (kx : Int)) 0 0 [] [] [] (tl : Int) (tc : Int))],[],many + 1,.inl ?_,hok',hm'⟩),(fun e=>nomatch e)⟩
                    rw [← hX .ready none]
                    refine PInv.turn (X:=X .busy none) ?_ _
                    refine pinv_push (qc:=qc) (q':=q) (qc':=qc) (qs':=qs.drop 1) (nv':=.mc (p + 3) (out.length + 1) cr) hPK s2 s5 s7' s8 s9 s10 (fun i hi h5 h6 hq hc=>?_) (by (repeat first|assumption|exact get_last|(refine get_last2 ?_;focus (simp;done))|apply get_set|apply get_app|(apply get_ne;focus omega)|(apply get_ne;focus (simp only [List.length_set,List.length_append,List.length_cons,List.length_nil];omega)));done) ?_ ?_ s4 (by (repeat first|assumption|exact get_last|(refine get_last2 ?_;focus (simp;done))|apply get_set|apply get_app|(apply get_ne;focus omega)|(apply get_ne;focus (simp only [List.length_set,List.length_append,List.length_cons,List.length_nil];omega)));done) ?_ (.inl rfl) (fun i hi=>.inr ?_) h50' hcnt
                    · have i2 : p + 2 ≠ i:=by omega
                      have i3 : p + 3 ≠ i:=by omega
                      have hir : rv ≠ i:=fun e=>hc (by rw [mcP,e];exact .head _)
                      repeat first|rw [List.getElem?_set_ne (Ne.symm h5)]|rw [List.getElem?_set_ne (Ne.symm h6)]|rw [List.getElem?_set_ne (Ne.symm hq)]|rw [List.getElem?_set_ne i2]|rw [List.getElem?_set_ne i3]|rw [List.getElem?_set_ne hir]
                      rw [List.getElem?_append_left (by rw [List.length_append];omega)]
                      exact List.getElem?_append_left hi
                    · exact (by (repeat first|assumption|exact get_last|(refine get_last2 ?_;focus (simp;done))|apply get_set|apply get_app|(apply get_ne;focus omega)|(apply get_ne;focus (simp only [List.length_set,List.length_append,List.length_cons,List.length_nil];omega)));done)
                    · simp only [List.length_append,List.length_drop,List.length_cons,List.length_nil] at s3 ⊢;omega
                    · refine .inr ⟨p + 3,cr,sr,?_,?_,e2,?_,?_⟩
                      · rw [hhx,List.length_append,hhl];rfl
                      · rw [hhx,List.length_append,hhl];simp only [List.length_cons,List.length_nil];omega
                      · refine Eq.trans (by (repeat first|assumption|exact get_last|(refine get_last2 ?_;focus (simp;done))|apply get_set|apply get_app|(apply get_ne;focus omega)|(apply get_ne;focus (simp only [List.length_set,List.length_append,List.length_cons,List.length_nil];omega)));done) ?_
                        rw [hhx]
                      · rw [hhx]
                        first|exact e3|(rw [← e3];simp)
                    · rw [mcP,List.mem_singleton] at hi;omega
              · have hmw : ∀ e,e ∈ (hvs ++ [cv]).map (fun v=>[v]) → e.length = 1:=fun e he=>by
                  obtain ⟨a,_,rfl⟩:=List.mem_map.1 he;rfl
                have hmf : ((hvs ++ [cv]).map fun v=>[v]).flatten.length = ((hvs ++ [cv]).map fun v=>[v]).length * 1:=by rw [hflat,List.length_map,Nat.mul_one]
                rcases s7 with ⟨rfl,hnil⟩ | ⟨rv,cap,sp,rfl,v2,v3,v4,v5⟩
                · have ho0 : out.length = 0:=by rw [← hhl,hnil];rfl
                  repeat' first
 | (refine idApD rfl ?_;refine dV2 (S_appN1 (els:=(hvs ++ [cv]).map fun v=>[v]) (els':=[[nilV]]) (sp:=qs) (p + 2) rfl rfl hfr2 (get_app (get_app hsf)) hmlen.symm (by simp only [List.length_cons,List.length_nil];omega) (by simp) rfl hmw hmf rfl (by simp only [List.length_cons,List.length_nil];omega) (by simp only [List.length_cons,List.length_nil];omega)) (bltL hfr2) rfl ?_)
 | (refine idApD rfl ?_;refine dV (S_appN0 (els':=[[i64 (3 + (kx : Int)),i64 0,i64 0,str [],str [],.sl none 8 [],i64 (tl : Int),i64 (tc : Int)]]) (p + 3) rfl rfl (by (repeat first|assumption|exact get_last|(refine get_last2 ?_;focus (simp;done))|apply get_set|apply get_app|(apply get_ne;focus omega)|(apply get_ne;focus (simp only [List.length_set,List.length_append,List.length_cons,List.length_nil];omega)));done) (by simp) rfl rfl (by simp) (by simp)) (bltL (by (repeat first|assumption|exact get_last|(refine get_last2 ?_;focus (simp;done))|apply get_set|apply get_app|(apply get_ne;focus omega)|(apply get_ne;focus (simp only [List.length_set,List.length_append,List.length_cons,List.length_nil];omega)));done)) rfl ?_)
 | (apply d1 (hd:=rfl);case hop=>first|(apply D_lit;rfl;rfl;rfl;rfl))
 | (refine idDn ?_;first|refine dS (S_store rfl rfl rfl (by (repeat first|assumption|exact get_last|(refine get_last2 ?_;focus (simp;done))|apply get_set|apply get_app|(apply get_ne;focus omega)|(apply get_ne;focus (simp only [List.length_set,List.length_append,List.length_cons,List.length_nil];omega)));done) (by rfl) (by rfl) (by rfl)) (bltL (by (repeat first|assumption|exact get_last|(refine get_last2 ?_;focus (simp;done))|apply get_set|apply get_app|(apply get_ne;focus omega)|(apply get_ne;focus (simp only [List.length_set,List.length_append,List.length_cons,List.length_nil];omega)));done)) ?_|refine dL _ (fun hp' hs=>D_loadB1 rfl (hs.trans (by (repeat first|assumption|exact get_last|(refine get_last2 ?_;focus (simp;done))|apply get_set|apply get_app|(apply get_ne;focus omega)|(apply get_ne;focus (simp only [List.length_set,List.length_append,List.length_cons,List.length_nil];omega)));done)) (by rfl)) rfl ?_|refine dL _ (fun hp' hs=>D_loadBA rfl (hs.trans (by (repeat first|assumption|exact get_last|(refine get_last2 ?_;focus (simp;done))|apply get_set|apply get_app|(apply get_ne;focus omega)|(apply get_ne;focus (simp only [List.length_set,List.length_append,List.length_cons,List.length_nil];omega)));done)) (by rfl)) rfl ?_)
                  refine WD_nilR [5,6,p + 1,q,p + 2,p + 3] [([0],none),([],none),([4,3],some 4),([1],none),([2],none),([],none),([5],some 5),([0],some 0),([1],some 1)] ?_ rfl rfl (by decide +kernel) ?_
                  · simp only [List.nodup_cons,List.mem_cons,List.not_mem_nil,or_false,not_or,List.nodup_nil,and_true,not_false_eq_true];omega
                  refine tn ?_
                  refine W_rowCC 5 0 (p + 2) (els:=((hvs ++ [cv]).map fun v=>[v]) ++ [[nilV]]) (xs:=[rowA (p + 2) (out.length + 1 + 1)]) (by (repeat first|assumption|exact get_last|(refine get_last2 ?_;focus (simp;done))|apply get_set|apply get_app|(apply get_ne;focus omega)|(apply get_ne;focus (simp only [List.length_set,List.length_append,List.length_cons,List.length_nil];omega)));done) rfl (by (repeat first|assumption|exact get_last|(refine get_last2 ?_;focus (simp;done))|apply get_set|apply get_app|(apply get_ne;focus omega)|(apply get_ne;focus (simp only [List.length_set,List.length_append,List.length_cons,List.length_nil];omega)));done) (by simp [s5]) (by simp) (by omega) ?_
                  intro sq cq y1 y2 y3
                  refine W_rowCC 6 0 (p + 3) (els:=[[i64 (3 + (kx : Int)),i64 0,i64 0,str [],str [],.sl none 8 [],i64 (tl : Int),i64 (tc : Int)]]) (xs:=[rowA (p + 3) 1]) (by (repeat first|assumption|exact get_last|(refine get_last2 ?_;focus (simp;done))|apply get_set|apply get_app|(apply get_ne;focus omega)|(apply get_ne;focus (simp only [List.length_set,List.length_append,List.length_cons,List.length_nil];omega)));done) rfl (by (repeat first|assumption|exact get_last|(refine get_last2 ?_;focus (simp;done))|apply get_set|apply get_app|(apply get_ne;focus omega)|(apply get_ne;focus (simp only [List.length_set,List.length_append,List.length_cons,List.length_nil];omega)));done) (by simp) (by simp) (by omega) ?_
                  intro sr cr e1 e2 e3
                  repeat' first
 | refine te ?_
 | (refine idB ?_;refine bh rfl ?_)
 | (refine W_exit ?_)
                  refine ⟨rfl,⟨.busy,none,Eq.trans (b:=some (X .busy none)) (by (repeat first|assumption|exact get_last|(refine get_last2 ?_;focus (simp;done))|apply get_set|apply get_app|(apply get_ne;focus omega)|(apply get_ne;focus (simp only [List.length_set,List.length_append,List.length_cons,List.length_nil];omega)));done) (congrArg some (hX _ _))⟩,(fun _=>⟨out ++ [(cur,Nd.mk (3 + (kx : Int)) 0 0 [] [] [] (tl : Int) (tc : Int))],[],many + 1,.inl ?_,hok',hm'⟩),(fun e=>nomatch e)⟩
                  rw [← hX .ready none]
                  refine PInv.turn (X:=X .busy none) ?_ _
                  refine pinv_push (qc:=qc) (q':=p + 2) (qc':=cq) (qs':=sq) (nv':=.mc (p + 3) 1 cr) hPK s2 s5 s7' s8 s9 s10 (fun i hi h5 h6 hq hc=>?_) (by (repeat first|assumption|exact get_last|(refine get_last2 ?_;focus (simp;done))|apply get_set|apply get_app|(apply get_ne;focus omega)|(apply get_ne;focus (simp only [List.length_set,List.length_append,List.length_cons,List.length_nil];omega)));done) ?_ ?_ y2 (by (repeat first|assumption|exact get_last|(refine get_last2 ?_;focus (simp;done))|apply get_set|apply get_app|(apply get_ne;focus omega)|(apply get_ne;focus (simp only [List.length_set,List.length_append,List.length_cons,List.length_nil];omega)));done) ?_ (.inr (by omega)) (fun i hi=>.inr ?_) h50' hcnt
                  · have i2 : p + 2 ≠ i:=by omega
                    have i3 : p + 3 ≠ i:=by omega
                    skip
                    repeat first|rw [List.getElem?_set_ne (Ne.symm h5)]|rw [List.getElem?_set_ne (Ne.symm h6)]|rw [List.getElem?_set_ne (Ne.symm hq)]|rw [List.getElem?_set_ne i2]|rw [List.getElem?_set_ne i3]
                    rw [List.getElem?_append_left (by rw [List.length_append];omega)]
                    exact List.getElem?_append_left hi
                  · refine Eq.trans (by (repeat first|assumption|exact get_last|(refine get_last2 ?_;focus (simp;done))|apply get_set|apply get_app|(apply get_ne;focus omega)|(apply get_ne;focus (simp only [List.length_set,List.length_append,List.length_cons,List.length_nil];omega)));done) ?_
                    rw [List.flatten_append,hflat];rfl
                  · rw [List.flatten_append,hflat] at y3
                    rw [Nat.mul_one] at y3;exact y3
                  · refine .inr ⟨p + 3,cr,sr,?_,?_,e2,?_,?_⟩
                    · rw [hhx,List.length_append,hhl,ho0];rfl
                    · rw [hhx,List.length_append,hhl];simp only [List.length_cons,List.length_nil];omega
                    · refine Eq.trans (by (repeat first|assumption|exact get_last|(refine get_last2 ?_;focus (simp;done))|apply get_set|apply get_app|(apply get_ne;focus omega)|(apply get_ne;focus (simp only [List.length_set,List.length_append,List.length_cons,List.length_nil];omega)));done) ?_
                      rw [hhx];simp [hnil]
                    · rw [hhx]
                      first|exact e3|(rw [← e3];simp [hnil])
                  · rw [mcP,List.mem_singleton] at hi;omega
                · rw [hhl] at s6 v2
                  obtain ⟨hrb,hrq⟩:=s10.d2 rv (by rw [mcP];exact .head _)
                  have hr5 : rv ≠ 5:=fun e=>hrb (by rw [e];decide)
                  have hr6 : rv ≠ 6:=fun e=>hrb (by rw [e];decide)
                  have hr9 : rv ≠ 9:=fun e=>hrb (by rw [e];decide)
                  have hrn:=ne_ty v4 hNK
                  have hrK:=(List.getElem?_eq_some_iff.1 v4).1
                  have hr2 : rv ≠ p + 2:=by omega
                  have hr3 : rv ≠ p + 3:=by omega
                  have hi2 : ∀ i,i ∈ mcP (.mc rv (out.length + 1) cap) → i ∈ mcP (.mc rv (ndCs (out.map (·.2))).length cap):=fun i hi=>hi
                  by_cases hrh : out.length + 1 ≤ cap
                  · have hsp8 : 8 ≤ sp.length:=by
                      simp only [List.length_append,hhf,hhl] at v5;omega
                    have hys : ((ndCs (out.map (·.2))).flatten ++ sp).take (out.length * 8) ++ [[i64 (3 + (kx : Int)),i64 0,i64 0,str [],str [],.sl none 8 [],i64 (tl : Int),i64 (tc : Int)]].flatten ++ ((ndCs (out.map (·.2))).flatten ++ sp).drop (out.length * 8 + [[i64 (3 + (kx : Int)),i64 0,i64 0,str [],str [],.sl none 8 [],i64 (tl : Int),i64 (tc : Int)]].flatten.length) = (ndCs (out.map (·.2) ++ [Nd.mk (3 + (kx : Int)) 0 0 [] [] [] (tl : Int) (tc : Int)])).flatten ++ sp.drop 8:=by
                      have hhf' : (ndCs (out.map (·.2))).flatten.length = out.length * 8:=by rw [hhf,hhl]
                      rw [hhx,List.take_left' hhf',← List.drop_drop,List.drop_left' hhf',List.flatten_append];rfl
                    repeat' first
 | (refine idApD rfl ?_;refine dV2 (S_appN1 (els:=(hvs ++ [cv]).map fun v=>[v]) (els':=[[nilV]]) (sp:=qs) (p + 2) rfl rfl hfr2 (get_app (get_app hsf)) hmlen.symm (by simp only [List.length_cons,List.length_nil];omega) (by simp) rfl hmw hmf rfl (by simp only [List.length_cons,List.length_nil];omega) (by simp only [List.length_cons,List.length_nil];omega)) (bltL hfr2) rfl ?_)
 | (refine idApD rfl ?_;refine dV (S_appCe (els':=[[i64 (3 + (kx : Int)),i64 0,i64 0,str [],str [],.sl none 8 [],i64 (tl : Int),i64 (tc : Int)]]) rfl rfl (xs:=(ndCs (out.map (·.2))).flatten ++ sp) (by (repeat first|assumption|exact get_last|(refine get_last2 ?_;focus (simp;done))|apply get_set|apply get_app|(apply get_ne;focus omega)|(apply get_ne;focus (simp only [List.length_set,List.length_append,List.length_cons,List.length_nil];omega)));done) v5 (by simp) (by simp only [List.length_cons,List.length_nil];omega) hys) (bltL (by (repeat first|assumption|exact get_last|(refine get_last2 ?_;focus (simp;done))|apply get_set|apply get_app|(apply get_ne;focus omega)|(apply get_ne;focus (simp only [List.length_set,List.length_append,List.length_cons,List.length_nil];omega)));done)) rfl ?_)
 | (apply d1 (hd:=rfl);case hop=>first|(apply D_lit;rfl;rfl;rfl;rfl))
 | (refine idDn ?_; first|refine dS (S_store rfl rfl rfl (by (repeat first|assumption|exact get_last|(refine get_last2 ?_;focus (simp;done))|apply get_set|apply get_app|(apply get_ne;focus omega)|(apply get_ne;focus (simp only [List.length_set,List.length_append,List.length_cons,List.length_nil];omega)));done) (by rfl) (by rfl) (by rfl)) (bltL (by (repeat first|assumption|exact get_last|(refine get_last2 ?_;focus (simp;done))|apply get_set|apply get_app|(apply get_ne;focus omega)|(apply get_ne;focus (simp only [List.length_set,List.length_append,List.length_cons,List.length_nil];omega)));done)) ?_|refine dL _ (fun hp' hs=>D_loadB1 rfl (hs.trans (by (repeat first|assumption|exact get_last|(refine get_last2 ?_;focus (simp;done))|apply get_set|apply get_app|(apply get_ne;focus omega)|(apply get_ne;focus (simp only [List.length_set,List.length_append,List.length_cons,List.length_nil];omega)));done)) (by rfl)) rfl ?_|refine dL _ (fun hp' hs=>D_loadBA rfl (hs.trans (by (repeat first|assumption|exact get_last|(refine get_last2 ?_;focus (simp;done))|apply get_set|apply get_app|(apply get_ne;focus omega)|(apply get_ne;focus (simp only [List.length_set,List.length_append,List.length_cons,List.length_nil];omega)));done)) (by rfl)) rfl ?_)
                    refine WD_nilR [5,6,p + 1,q,p + 2,p + 3,rv] [([0],none),([],none),([4,3],some 4),([1],none),([2],none),([],none),([6],some 6),([0],some 0),([1],some 1)] ?_ rfl rfl (by decide +kernel) ?_
                    · simp only [List.nodup_cons,List.mem_cons,List.not_mem_nil,or_false,not_or,List.nodup_nil,and_true,not_false_eq_true];omega
                    refine tn ?_
                    refine W_rowCC 5 0 (p + 2) (els:=((hvs ++ [cv]).map fun v=>[v]) ++ [[nilV]]) (xs:=[rowA (p + 2) (out.length + 1 + 1)]) (by (repeat first|assumption|exact get_last|(refine get_last2 ?_;focus (simp;done))|apply get_set|apply get_app|(apply get_ne;focus omega)|(apply get_ne;focus (simp only [List.length_set,List.length_append,List.length_cons,List.length_nil];omega)));done) rfl (by (repeat first|assumption|exact get_last|(refine get_last2 ?_;focus (simp;done))|apply get_set|apply get_app|(apply get_ne;focus omega)|(apply get_ne;focus (simp only [List.length_set,List.length_append,List.length_cons,List.length_nil];omega)));done) (by simp [s5]) (by simp) (by omega) ?_
                    intro sq cq y1 y2 y3
                    repeat' first
 | refine te ?_
 | (refine idB ?_;refine bh rfl ?_)
 | (refine W_exit ?_)
                    refine ⟨rfl,⟨.busy,none,Eq.trans (b:=some (X .busy none)) (by (repeat first|assumption|exact get_last|(refine get_last2 ?_;focus (simp;done))|apply get_set|apply get_app|(apply get_ne;focus omega)|(apply get_ne;focus (simp only [List.length_set,List.length_append,List.length_cons,List.length_nil];omega)));done) (congrArg some (hX _ _))⟩,(fun _=>⟨out ++ [(cur,Nd.mk (3 + (kx : Int)) 0 0 [] [] [] (tl : Int) (tc : Int))],[],many + 1,.inl ?_,hok',hm'⟩),(fun e=>nomatch e)⟩
                    rw [← hX .ready none]
                    refine PInv.turn (X:=X .busy none) ?_ _
                    refine pinv_push (qc:=qc) (q':=p + 2) (qc':=cq) (qs':=sq) (nv':=.mc rv (out.length + 1) cap) hPK s2 s5 s7' s8 s9 s10 (fun i hi h5 h6 hq hc=>?_) (by (repeat first|assumption|exact get_last|(refine get_last2 ?_;focus (simp;done))|apply get_set|apply get_app|(apply get_ne;focus omega)|(apply get_ne;focus (simp only [List.length_set,List.length_append,List.length_cons,List.length_nil];omega)));done) ?_ ?_ y2 (by (repeat first|assumption|exact get_last|(refine get_last2 ?_;focus (simp;done))|apply get_set|apply get_app|(apply get_ne;focus omega)|(apply get_ne;focus (simp only [List.length_set,List.length_append,List.length_cons,List.length_nil];omega)));done) ?_ (.inr (by omega)) (fun i hi=>.inl ⟨hi2 i hi,?_⟩) h50' hcnt
                    · have i2 : p + 2 ≠ i:=by omega
                      have i3 : p + 3 ≠ i:=by omega
                      have hir : rv ≠ i:=fun e=>hc (by rw [mcP,e];exact .head _)
                      repeat first|rw [List.getElem?_set_ne (Ne.symm h5)]|rw [List.getElem?_set_ne (Ne.symm h6)]|rw [List.getElem?_set_ne (Ne.symm hq)]|rw [List.getElem?_set_ne i2]|rw [List.getElem?_set_ne i3]|rw [List.getElem?_set_ne hir]
                      rw [List.getElem?_append_left (by rw [List.length_append];omega)]
                      exact List.getElem?_append_left hi
                    · refine Eq.trans (by (repeat first|assumption|exact get_last|(refine get_last2 ?_;focus (simp;done))|apply get_set|apply get_app|(apply get_ne;focus omega)|(apply get_ne;focus (simp only [List.length_set,List.length_append,List.length_cons,List.length_nil];omega)));done) ?_
                      rw [List.flatten_append,hflat];rfl
                    · rw [List.flatten_append,hflat] at y3
                      rw [Nat.mul_one] at y3;exact y3
                    · refine .inr ⟨rv,cap,sp.drop 8,?_,?_,v3,?_,?_⟩
                      · rw [hhx,List.length_append,hhl];rfl
                      · rw [hhx,List.length_append];simp only [List.length_cons,List.length_nil];omega
                      · exact (by (repeat first|assumption|exact get_last|(refine get_last2 ?_;focus (simp;done))|apply get_set|apply get_app|(apply get_ne;focus omega)|(apply get_ne;focus (simp only [List.length_set,List.length_append,List.length_cons,List.length_nil];omega)));done)
                      · rw [hhx,List.flatten_append]
                        simp only [List.length_append,List.flatten_cons,List.flatten_nil,List.append_nil,List.length_drop,hhf,List.length_cons,List.length_nil] at v5 ⊢
                        omega
                    · rw [mcP,List.mem_singleton] at hi;rw [hi];first|exact hrq|omega
                  · skip
                    repeat' first
 | (refine idApD rfl ?_;refine dV2 (S_appN1 (els:=(hvs ++ [cv]).map fun v=>[v]) (els':=[[nilV]]) (sp:=qs) (p + 2) rfl rfl hfr2 (get_app (get_app hsf)) hmlen.symm (by simp only [List.length_cons,List.length_nil];omega) (by simp) rfl hmw hmf rfl (by simp only [List.length_cons,List.length_nil];omega) (by simp only [List.length_cons,List.length_nil];omega)) (bltL hfr2) rfl ?_)
 | (refine idApD rfl ?_;refine dV2 (S_appN1 (els:=ndCs (out.map (·.2))) (els':=[[i64 (3 + (kx : Int)),i64 0,i64 0,str [],str [],.sl none 8 [],i64 (tl : Int),i64 (tc : Int)]]) (sp:=sp) (p + 3) rfl rfl (by (repeat first|assumption|exact get_last|(refine get_last2 ?_;focus (simp;done))|apply get_set|apply get_app|(apply get_ne;focus omega)|(apply get_ne;focus (simp only [List.length_set,List.length_append,List.length_cons,List.length_nil];omega)));done) (by (repeat first|assumption|exact get_last|(refine get_last2 ?_;focus (simp;done))|apply get_set|apply get_app|(apply get_ne;focus omega)|(apply get_ne;focus (simp only [List.length_set,List.length_append,List.length_cons,List.length_nil];omega)));done) hhl.symm (by simp only [List.length_cons,List.length_nil];omega) (by simp) rfl (ndCs_w _) hhf rfl (by simp only [List.length_cons,List.length_nil];omega) (by simp only [List.length_cons,List.length_nil];omega)) (bltL (by (repeat first|assumption|exact get_last|(refine get_last2 ?_;focus (simp;done))|apply get_set|apply get_app|(apply get_ne;focus omega)|(apply get_ne;focus (simp only [List.length_set,List.length_append,List.length_cons,List.length_nil];omega)));done)) rfl ?_)
 | (apply d1 (hd:=rfl);case hop=>first|(apply D_lit;rfl;rfl;rfl;rfl))
 | (refine idDn ?_; first|refine dS (S_store rfl rfl rfl (by (repeat first|assumption|exact get_last|(refine get_last2 ?_;focus (simp;done))|apply get_set|apply get_app|(apply get_ne;focus omega)|(apply get_ne;focus (simp only [List.length_set,List.length_append,List.length_cons,List.length_nil];omega)));done) (by rfl) (by rfl) (by rfl)) (bltL (by (repeat first|assumption|exact get_last|(refine get_last2 ?_;focus (simp;done))|apply get_set|apply get_app|(apply get_ne;focus omega)|(apply get_ne;focus (simp only [List.length_set,List.length_append,List.length_cons,List.length_nil];omega)));done)) ?_|refine dL _ (fun hp' hs=>D_loadB1 rfl (hs.trans (by (repeat first|assumption|exact get_last|(refine get_last2 ?_;focus (simp;done))|apply get_set|apply get_app|(apply get_ne;focus omega)|(apply get_ne;focus (simp only [List.length_set,List.length_append,List.length_cons,List.length_nil];omega)));done)) (by rfl)) rfl ?_|refine dL _ (fun hp' hs=>D_loadBA rfl (hs.trans (by (repeat first|assumption|exact get_last|(refine get_last2 ?_;focus (simp;done))|apply get_set|apply get_app|(apply get_ne;focus omega)|(apply get_ne;focus (simp only [List.length_set,List.length_append,List.length_cons,List.length_nil];omega)));done)) (by rfl)) rfl ?_)
                    refine WD_nilR [5,6,p + 1,q,p + 2,p + 3,rv] [([0],none),([],none),([4,3],some 4),([1],none),([2],none),([],none),([5,6],some 5),([0],some 0),([1],some 1)] ?_ rfl rfl (by decide +kernel) ?_
                    · simp only [List.nodup_cons,List.mem_cons,List.not_mem_nil,or_false,not_or,List.nodup_nil,and_true,not_false_eq_true];omega
                    refine tn ?_
                    refine W_rowCC 5 0 (p + 2) (els:=((hvs ++ [cv]).map fun v=>[v]) ++ [[nilV]]) (xs:=[rowA (p + 2) (out.length + 1 + 1)]) (by (repeat first|assumption|exact get_last|(refine get_last2 ?_;focus (simp;done))|apply get_set|apply get_app|(apply get_ne;focus omega)|(apply get_ne;focus (simp only [List.length_set,List.length_append,List.length_cons,List.length_nil];omega)));done) rfl (by (repeat first|assumption|exact get_last|(refine get_last2 ?_;focus (simp;done))|apply get_set|apply get_app|(apply get_ne;focus omega)|(apply get_ne;focus (simp only [List.length_set,List.length_append,List.length_cons,List.length_nil];omega)));done) (by simp [s5]) (by simp) (by omega) ?_
                    intro sq cq y1 y2 y3
                    refine W_rowCC 6 0 (p + 3) (els:=ndCs (out.map (·.2)) ++ [[i64 (3 + (kx : Int)),i64 0,i64 0,str [],str [],.sl none 8 [],i64 (tl : Int),i64 (tc : Int)]]) (xs:=[rowA (p + 3) (out.length + 1)]) (by (repeat first|assumption|exact get_last|(refine get_last2 ?_;focus (simp;done))|apply get_set|apply get_app|(apply get_ne;focus omega)|(apply get_ne;focus (simp only [List.length_set,List.length_append,List.length_cons,List.length_nil];omega)));done) rfl (by (repeat first|assumption|exact get_last|(refine get_last2 ?_;focus (simp;done))|apply get_set|apply get_app|(apply get_ne;focus omega)|(apply get_ne;focus (simp only [List.length_set,List.length_append,List.length_cons,List.length_nil];omega)));done) (by simp [hhl]) (by simp) (by omega) ?_
                    intro sr cr e1 e2 e3
                    repeat' first
 | refine te ?_
 | (refine idB ?_;refine bh rfl ?_)
 | (refine W_exit ?_)
                    refine ⟨rfl,⟨.busy,none,Eq.trans (b:=some (X .busy none)) (by (repeat first|assumption|exact get_last|(refine get_last2 ?_;focus (simp;done))|apply get_set|apply get_app|(apply get_ne;focus omega)|(apply get_ne;focus (simp only [List.length_set,List.length_append,List.length_cons,List.length_nil];omega)));done) (congrArg some (hX _ _))⟩,(fun _=>⟨out ++ [(cur,Nd.mk (3 + (kx : Int)) 0 0 [] [] [] (tl : Int) (tc : Int))],[],many + 1,.inl ?_,hok',hm'⟩),(fun e=>nomatch e)⟩
                    rw [← hX .ready none]
                    refine PInv.turn (X:=X .busy none) ?_ _
                    refine pinv_push (qc:=qc) (q':=p + 2) (qc':=cq) (qs':=sq) (nv':=.mc (p + 3) (out.length + 1) cr) hPK s2 s5 s7' s8 s9 s10 (fun i hi h5 h6 hq hc=>?_) (by (repeat first|assumption|exact get_last|(refine get_last2 ?_;focus (simp;done))|apply get_set|apply get_app|(apply get_ne;focus omega)|(apply get_ne;focus (simp only [List.length_set,List.length_append,List.length_cons,List.length_nil];omega)));done) ?_ ?_ y2 (by (repeat first|assumption|exact get_last|(refine get_last2 ?_;focus (simp;done))|apply get_set|apply get_app|(apply get_ne;focus omega)|(apply get_ne;focus (simp only [List.length_set,List.length_append,List.length_cons,List.length_nil];omega)));done) ?_ (.inr (by omega)) (fun i hi=>.inr ?_) h50' hcnt
                    · have i2 : p + 2 ≠ i:=by omega
                      have i3 : p + 3 ≠ i:=by omega
                      have hir : rv ≠ i:=fun e=>hc (by rw [mcP,e];exact .head _)
                      repeat first|rw [List.getElem?_set_ne (Ne.symm h5)]|rw [List.getElem?_set_ne (Ne.symm h6)]|rw [List.getElem?_set_ne (Ne.symm hq)]|rw [List.getElem?_set_ne i2]|rw [List.getElem?_set_ne i3]|rw [List.getElem?_set_ne hir]
                      rw [List.getElem?_append_left (by rw [List.length_append];omega)]
                      exact List.getElem?_append_left hi
                    · refine Eq.trans (by (repeat first|assumption|exact get_last|(refine get_last2 ?_;focus (simp;done))|apply get_set|apply get_app|(apply get_ne;focus omega)|(apply get_ne;focus (simp only [List.length_set,List.length_append,List.length_cons,List.length_nil];omega)));done) ?_
                      rw [List.flatten_append,hflat];rfl
                    · rw [List.flatten_append,hflat] at y3
                      rw [Nat.mul_one] at y3;exact y3
                    · refine .inr ⟨p + 3,cr,sr,?_,?_,e2,?_,?_⟩
                      · rw [hhx,List.length_append,hhl];rfl
                      · rw [hhx,List.length_append,hhl];simp only [List.length_cons,List.length_nil];omega
                      · refine Eq.trans (by (repeat first|assumption|exact get_last|(refine get_last2 ?_;focus (simp;done))|apply get_set|apply get_app|(apply get_ne;focus omega)|(apply get_ne;focus (simp only [List.length_set,List.length_append,List.length_cons,List.length_nil];omega)));done) ?_
                        rw [hhx]
                      · rw [hhx]
                        first|exact e3|(rw [← e3];simp)
                    · rw [mcP,List.mem_singleton] at hi;omega
          · rw [if_neg hopm] at hm
            have hno2:=tok_no (l:=[40,91,123]) hok1 (fun x hx=>List.mem_append.2 (.inl hx)) hopm
            rw [hno2] at hidxo
            have hvp:=parse_pc hpw he (c :: r) (by omega)
            have hnmd:=named_pc (c :: r) (by omega)
            cases hlf : leafT (c :: r) with
            | none =>
              rw [hlf] at hm
              simp only at hm
              rcases parseE_cases (c :: r) with hv0 | ⟨hv1,hv2⟩
              · rw [leaf_v hv0] at hlf;cases hlf
              have hnn : ¬ NamedP (c :: r):=fun hn=>by rw [leaf_n (by rw [hv1];decide) hn] at hlf;cases hlf
              rw [hv1,hv2] at hvp
              rw [dP_f.mpr hnn] at hnmd
              repeat' first
 | (apply p1 (hd:=rfl);case hop=>first|(apply D_move;rfl)|(apply D_assign;rfl)|(apply D_pc hcont;rfl;exact .same rfl (.same rfl .nil))|(apply D_pc hidxo;rfl;exact .same rfl (.same rfl .nil))|(apply D_pc hvp;rfl;exact .same rfl .nil)|(apply D_pc hnmd;rfl;exact .same rfl .nil)|exact D_sc (D_int rfl rfl rfl) (congrArg (Value.int IntKind.i64) hmany)|(apply D_int;rfl;rfl;rfl)|(apply D_ext;rfl;rfl)|exact D_fldB rfl)
 | refine W_seq ?_
 | refine W_region ?_
 | (refine idC ?_;first|refine c0 rfl ?_|refine cs rfl (fun _=>?_) (fun _=>?_))
 | refine WL_nil ?_
 | refine tn ?_
 | refine bn ?_
 | refine W_skip ?_
 | refine W_block ?_
 | (refine idLd ?_;first|refine p1L (D_loadB1 rfl (by (repeat first|assumption|exact get_last|(refine get_last2 ?_;focus (simp;done))|apply get_set|apply get_app|(apply get_ne;focus omega)|(apply get_ne;focus (simp only [List.length_set,List.length_append,List.length_cons,List.length_nil];omega)));done) (by rfl)) rfl ?_)
 | (refine idA ?_;refine m_alloc rfl ?_)
 | (refine idS ?_;first|refine pS (S_store rfl rfl rfl (by (repeat first|assumption|exact get_last|(refine get_last2 ?_;focus (simp;done))|apply get_set|apply get_app|(apply get_ne;focus omega)|(apply get_ne;focus (simp only [List.length_set,List.length_append,List.length_cons,List.length_nil];omega)));done) (by rfl) (by rfl) (by rfl)) ?_)
 | (refine idW ?_;refine W_draw0 rfl ?_)
 | (apply d1 (hd:=rfl);case hop=>first|(apply D_lit;rfl;rfl;rfl;rfl)|exact D_fldB rfl)
 | (refine idDn ?_;first|refine dS (S_store rfl rfl rfl (by (repeat first|assumption|exact get_last|(refine get_last2 ?_;focus (simp;done))|apply get_set|apply get_app|(apply get_ne;focus omega)|(apply get_ne;focus (simp only [List.length_set,List.length_append,List.length_cons,List.length_nil];omega)));done) (by rfl) (by rfl) (by rfl)) (bltL (by (repeat first|assumption|exact get_last|(refine get_last2 ?_;focus (simp;done))|apply get_set|apply get_app|(apply get_ne;focus omega)|(apply get_ne;focus (simp only [List.length_set,List.length_append,List.length_cons,List.length_nil];omega)));done)) ?_|refine dL _ (fun hp' hs=>D_loadB1 rfl (hs.trans (by (repeat first|assumption|exact get_last|(refine get_last2 ?_;focus (simp;done))|apply get_set|apply get_app|(apply get_ne;focus omega)|(apply get_ne;focus (simp only [List.length_set,List.length_append,List.length_cons,List.length_nil];omega)));done)) (by rfl)) rfl ?_|refine dL _ (fun hp' hs=>D_loadBA rfl (hs.trans (by (repeat first|assumption|exact get_last|(refine get_last2 ?_;focus (simp;done))|apply get_set|apply get_app|(apply get_ne;focus omega)|(apply get_ne;focus (simp only [List.length_set,List.length_append,List.length_cons,List.length_nil];omega)));done)) (by rfl)) rfl ?_)
              all_goals first
                | (exfalso;omega)
                | (exfalso;rename_i hh;exact Bool.noConfusion hh)
                | skip
              refine WD_nilR [p,0,1,2,3] [([],none),([0],none),([],none),([0],none),([1],some 1),([2],some 2),([3],some 3),([4],some 4)] hndE rfl rfl (by decide +kernel) ?_
              repeat' first
 | refine tn ?_
 | refine tr ?_
 | refine br ?_
 | (refine W_ret ?_)
              refine ⟨rfl,⟨.busy,none,Eq.trans (b:=some (X .busy none)) (by (repeat first|assumption|exact get_last|(refine get_last2 ?_;focus (simp;done))|apply get_set|apply get_app|(apply get_ne;focus omega)|(apply get_ne;focus (simp only [List.length_set,List.length_append,List.length_cons,List.length_nil];omega)));done) (congrArg some (hX _ _))⟩,(fun e=>nomatch e),fun _=>?_⟩
              rw [← hX .done (some .ret),← hm]
              exact pd_err (by (repeat first|assumption|exact get_last|(refine get_last2 ?_;focus (simp;done))|apply get_set|apply get_app|(apply get_ne;focus omega)|(apply get_ne;focus (simp only [List.length_set,List.length_append,List.length_cons,List.length_nil];omega)));done) (by (repeat first|assumption|exact get_last|(refine get_last2 ?_;focus (simp;done))|apply get_set|apply get_app|(apply get_ne;focus omega)|(apply get_ne;focus (simp only [List.length_set,List.length_append,List.length_cons,List.length_nil];omega)));done) (by (repeat first|assumption|exact get_last|(refine get_last2 ?_;focus (simp;done))|apply get_set|apply get_app|(apply get_ne;focus omega)|(apply get_ne;focus (simp only [List.length_set,List.length_append,List.length_cons,List.length_nil];omega)));done) (by (repeat first|assumption|exact get_last|(refine get_last2 ?_;focus (simp;done))|apply get_set|apply get_app|(apply get_ne;focus omega)|(apply get_ne;focus (simp only [List.length_set,List.length_append,List.length_cons,List.length_nil];omega)));done) (by (repeat first|assumption|exact get_last|(refine get_last2 ?_;focus (simp;done))|apply get_set|apply get_app|(apply get_ne;focus omega)|(apply get_ne;focus (simp only [List.length_set,List.length_append,List.length_cons,List.length_nil];omega)));done) (by (repeat first|assumption|exact get_last|(refine get_last2 ?_;focus (simp;done))|apply get_set|apply get_app|(apply get_ne;focus omega)|(apply get_ne;focus (simp only [List.length_set,List.length_append,List.length_cons,List.length_nil];omega)));done)
            | some x =>
              rw [hlf] at hm
              simp only at hm
              rcases parseE_cases (c :: r) with hv0 | ⟨hv1,hv2⟩
              · rw [leaf_v hv0] at hlf
                cases hlf
                rw [hv0] at hvp
                repeat' first
 | (apply p1 (hd:=rfl);case hop=>first|(apply D_move;rfl)|(apply D_assign;rfl)|(apply D_pc hcont;rfl;exact .same rfl (.same rfl .nil))|(apply D_pc hidxo;rfl;exact .same rfl (.same rfl .nil))|(apply D_pc hvp;rfl;exact .same rfl .nil)|(apply D_pc hnmd;rfl;exact .same rfl .nil)|exact D_sc (D_int rfl rfl rfl) (congrArg (Value.int IntKind.i64) hmany)|(apply D_int;rfl;rfl;rfl)|(apply D_ext;rfl;rfl)|exact D_fldB rfl)
 | refine W_seq ?_
 | refine W_region ?_
 | (refine idC ?_;first|refine c0 rfl ?_|refine cs rfl (fun _=>?_) (fun _=>?_))
 | refine WL_nil ?_
 | refine tn ?_
 | refine bn ?_
 | refine W_skip ?_
 | refine W_block ?_
 | (refine idLd ?_;first|refine p1L (D_loadB1 rfl (by (repeat first|assumption|exact get_last|(refine get_last2 ?_;focus (simp;done))|apply get_set|apply get_app|(apply get_ne;focus omega)|(apply get_ne;focus (simp only [List.length_set,List.length_append,List.length_cons,List.length_nil];omega)));done) (by rfl)) rfl ?_)
 | (refine idA ?_;refine m_alloc rfl ?_)
 | (refine idS ?_;first|refine pS (S_store rfl rfl rfl (by (repeat first|assumption|exact get_last|(refine get_last2 ?_;focus (simp;done))|apply get_set|apply get_app|(apply get_ne;focus omega)|(apply get_ne;focus (simp only [List.length_set,List.length_append,List.length_cons,List.length_nil];omega)));done) (by rfl) (by rfl) (by rfl)) ?_)
                all_goals first
                  | (exfalso;omega)
                  | (exfalso;rename_i hh;exact Bool.noConfusion hh)
                  | skip
                refine W_draw0 rfl ?_
                repeat' first
 | (apply d1 (hd:=rfl);case hop=>first|exact D_fldB rfl)
 | (refine idDn ?_;first|refine dS (S_store rfl rfl rfl (by (repeat first|assumption|exact get_last|(refine get_last2 ?_;focus (simp;done))|apply get_set|apply get_app|(apply get_ne;focus omega)|(apply get_ne;focus (simp only [List.length_set,List.length_append,List.length_cons,List.length_nil];omega)));done) (by rfl) (by rfl) (by rfl)) (bltL (by (repeat first|assumption|exact get_last|(refine get_last2 ?_;focus (simp;done))|apply get_set|apply get_app|(apply get_ne;focus omega)|(apply get_ne;focus (simp only [List.length_set,List.length_append,List.length_cons,List.length_nil];omega)));done)) ?_|refine dL _ (fun hp' hs=>D_loadBA rfl (hs.trans (by (repeat first|assumption|exact get_last|(refine get_last2 ?_;focus (simp;done))|apply get_set|apply get_app|(apply get_ne;focus omega)|(apply get_ne;focus (simp only [List.length_set,List.length_append,List.length_cons,List.length_nil];omega)));done)) (by rfl)) rfl ?_)
                refine WD_nilR [(H.set 7 (.cells [i64 ((many + 1 : Nat) : Int)])).length,p + 1] [([0],none),([],none),([1],some 1),([],none),([1],some 1)] ?_ rfl rfl (by decide +kernel) ?_
                · simp only [List.nodup_cons,List.mem_cons,List.not_mem_nil,or_false,not_or,List.nodup_nil,and_true,not_false_eq_true,List.length_set,hHl];omega
                repeat' first
 | refine W_seq ?_
 | refine tn ?_
 | (refine bn ?_)
                refine W_weak (s':=⟨[(6,.bp 5 0),(10,i64 (out.length : Int)),(11,.bp (p + 1) 0)],_,⟨[],_⟩⟩) ⟨⟨rfl,rfl,rfl,trivial⟩,rfl,rfl⟩ ?_
                refine W_gen fun K hK=>?_
                have hP7:=hPH.many (m':=many + 1) (by omega) (by omega)
                have hKl : K.length = p + 3:=by rw [hK];simp [hHl]
                have hPK : PInv (X .busy none) out cur (many + 1) K:=by
                  rw [hK]
                  repeat refine PInv.node ?_ (by (repeat first|assumption|exact get_last|(refine get_last2 ?_;focus (simp;done))|apply get_set|apply get_app|(apply get_ne;focus omega)|(apply get_ne;focus (simp only [List.length_set,List.length_append,List.length_cons,List.length_nil];omega)));done) (by first|omega|(simp only [List.length_set,List.length_append,List.length_cons,List.length_nil];omega)) _
                  exact hP7.app _
                have hNK : K[p + 1]? = some (.cells [i64 1,i64 (parseV (c :: r)).kind,i64 (parseV (c :: r)).n,str (parseV (c :: r)).s,str [],.sl none 8 [],i64 (tl : Int),i64 (tc : Int)]):=by
                  rw [hK];exact (by (repeat first|assumption|exact get_last|(refine get_last2 ?_;focus (simp;done))|apply get_set|apply get_app|(apply get_ne;focus omega)|(apply get_ne;focus (simp only [List.length_set,List.length_append,List.length_cons,List.length_nil];omega)));done)
                have hcn:=hPH.cnt
                have hcnt : cur.length + 1 + cntL out ≤ many + 1:=by omega
                have hm' : mach leafT ts (cur ++ [.mk 1 (parseV (c :: r)).kind (parseV (c :: r)).n (parseV (c :: r)).s [] [] (tl : Int) (tc : Int)]) out.reverse (many + 1) = R:=hm
                clear hP7 hK hPH hT hN s1 s2 s3 s4 s5 s6 s7 s8 s9 s10 f0 f1 f2 f3 f7 f8 f9 hqn hqp hcont hidxc hidxo hvp hnmd
                obtain ⟨hvs,cv,nv,q,qc,qs,s1,s2,s3,s4,s5,s6,s7,s8,s9,s10⟩:=hPK.sl
                have hqK:=(List.getElem?_eq_some_iff.1 s2).1
                have hqn:=ne_ty s2 hNK
                have hq5 : q ≠ 5:=(nd_base s10 (i:=5) (by decide)).1
                have hixc : ∀ u,(hvs ++ [u] ++ qs)[out.length]? = some u:=fun u=>by
                  rw [List.append_assoc,List.getElem?_append_right (by omega),s5,Nat.sub_self];rfl
                have hix1 : ∀ u,(hvs ++ [u] ++ qs)[((out.length : Nat) : Int).toNat * 1]? = some u:=fun u=>by
                  show (hvs ++ [u] ++ qs)[out.length * 1]? = _
                  rw [Nat.mul_one];exact hixc u
                have hsto : ∀ u v,(hvs ++ [u] ++ qs).take (((out.length : Nat) : Int).toNat * 1) ++ [v] ++ (hvs ++ [u] ++ qs).drop (((out.length : Nat) : Int).toNat * 1 + 1) = hvs ++ [v] ++ qs:=fun u v=>by
                  show (hvs ++ [u] ++ qs).take (out.length * 1) ++ [v] ++ (hvs ++ [u] ++ qs).drop (out.length * 1 + 1) = _
                  rw [Nat.mul_one,List.append_assoc hvs [u] qs,List.take_left' s5,← List.drop_drop,List.drop_left' s5];rfl
                have hsof : ((out.length : Nat) : Int).toNat * 1 + 1 ≤ (hvs ++ [cv] ++ qs).length:=by
                  show out.length * 1 + 1 ≤ _
                  simp only [List.length_append,List.length_cons,List.length_nil];omega
                have hset : ∀ u v,(hvs ++ [u] ++ qs).set out.length v = hvs ++ [v] ++ qs:=fun u v=>by
                  rw [List.append_assoc,List.set_append_right _ _ (by omega),s5,Nat.sub_self,List.append_assoc];rfl
                have hccl : (ndCs cur).length = cur.length:=ndCs_len _
                have hccf : (ndCs cur).flatten.length = (ndCs cur).length * 8:=flat_len (ndCs_w _)
                have hcl5 : cur.length + 1 ≤ 5000:=by have:=hPK.lim;omega
                have hnx : ndCs (cur ++ [.mk 1 (parseV (c :: r)).kind (parseV (c :: r)).n (parseV (c :: r)).s [] [] (tl : Int) (tc : Int)]) = ndCs cur ++ [[i64 1,i64 (parseV (c :: r)).kind,i64 (parseV (c :: r)).n,str (parseV (c :: r)).s,str [],.sl none 8 [],i64 (tl : Int),i64 (tc : Int)]]:=by rw [ndCs_app];simp [ndCs,ndC]
                refine W_coin rfl rfl rfl (by decide +kernel) (by decide +kernel) (by decide +kernel) (by decide +kernel) (by decide +kernel) (by decide +kernel) ?_
                intro b
                have hK0 : PInv (X .busy none) out cur (many + 1) (K ++ [.cells [.sc (.bool b)]]):=hPK.app _
                have hN0 : (K ++ [AObj.cells [.sc (.bool b)]])[p + 1]? = some (.cells [i64 1,i64 (parseV (c :: r)).kind,i64 (parseV (c :: r)).n,str (parseV (c :: r)).s,str [],.sl none 8 [],i64 (tl : Int),i64 (tc : Int)]):=get_app hNK
                have t1 : (K ++ [AObj.cells [.sc (.bool b)]])[5]? = _:=get_app s1
                have t2 : (K ++ [AObj.cells [.sc (.bool b)]])[q]? = _:=get_app s2
                have t6 : (K ++ [AObj.cells [.sc (.bool b)]])[6]? = _:=get_app s6
                have t7:=s7.app (.cells [.sc (.bool b)])
                have t8 : ∀ (i : Nat) (x : List Nd × Nd) (v : AV),out[i]? = some x → hvs[i]? = some v → SlK 8 tN (ndCs x.1) v (K ++ [.cells [.sc (.bool b)]]):=fun i x v hx hv=>(s8 i x v hx hv).app _
                have t9:=s9.app (.cells [.sc (.bool b)])
                have t9':=t9
                have k9:=hK0.a9
                have hq9 : q ≠ 9:=(nd_base s10 (i:=9) (by decide)).1
                have hKl0 : (K ++ [AObj.cells [.sc (.bool b)]]).length = p + 4:=by rw [List.length_append,hKl];rfl
                clear s1 s2 s6 s7 s8 s9 hPK hNK
                rcases t9 with ⟨rfl,hnil⟩ | ⟨rv,cap,sp,rfl,v2,v3,v4,v5⟩
                · cases b with
                  | false =>
                    have hq3 : q ≠ p + 4:=by omega
                    have hc0 : cur = []:=ndCs_nil hnil
                    repeat' first
 | (refine idC ?_;refine c0 rfl ?_)
 | (refine tn ?_)
                    all_goals first
                      | (exfalso;rename_i hh;exact Bool.noConfusion hh)
                      | skip
                    refine W_resv 1 ?_
                    refine W_hq (h':=K ++ [AObj.cells [.sc (.bool false)]] ++ [.free]) rfl ?_
                    have hfr : (K ++ [AObj.cells [.sc (.bool false)]] ++ [AObj.free])[p + 4]? = some .free:=by
                      have:=get_last (h:=K ++ [AObj.cells [.sc (.bool false)]]) (x:=AObj.free)
                      rw [hKl0] at this;exact this
                    refine W_draw0 rfl ?_
                    repeat' first
 | (refine idLdD ?_;refine dL q (fun _ hs=>D_loadB1 rfl (hs.trans (get_app t2)) (hix1 _)) rfl ?_)
 | (refine idLdD ?_;refine dL (p + 1) (fun _ hs=>D_loadBAe (c:=[i64 1,i64 (parseV (c :: r)).kind,i64 (parseV (c :: r)).n,str (parseV (c :: r)).s,str [],.sl none 8 [],i64 (tl : Int),i64 (tc : Int)]) rfl (hs.trans (get_app hN0)) (by simp) rfl) rfl ?_)
 | (refine idApD rfl ?_;refine dV (S_appN0 (els':=[[i64 1,i64 (parseV (c :: r)).kind,i64 (parseV (c :: r)).n,str (parseV (c :: r)).s,str [],.sl none 8 [],i64 (tl : Int),i64 (tc : Int)]]) (p + 4) rfl rfl hfr (by simp) rfl rfl (by simp) (by simp)) (bltL hfr) rfl ?_)
 | (refine idStD ?_;refine dS (S_storee (r:=q) rfl rfl rfl (by (repeat first|assumption|exact get_last|(refine get_last2 ?_;focus (simp;done))|apply get_set|apply get_app|(apply get_ne;focus omega)|(apply get_ne;focus (simp only [List.length_set,List.length_append,List.length_cons,List.length_nil];omega)));done) rfl rfl hsof (hsto _ _)) (bltL (by (repeat first|assumption|exact get_last|(refine get_last2 ?_;focus (simp;done))|apply get_set|apply get_app|(apply get_ne;focus omega)|(apply get_ne;focus (simp only [List.length_set,List.length_append,List.length_cons,List.length_nil];omega)));done)) ?_)
 | (apply d1 (hd:=rfl);case hop=>first|(apply D_move;rfl)|(apply D_ixC;rfl;rfl;all_goals omega)|(apply D_lit;rfl;rfl;rfl;rfl))
 | (refine idDn ?_; first|refine dL _ (fun hp' hs=>D_loadB1 rfl (hs.trans (by (repeat first|assumption|exact get_last|(refine get_last2 ?_;focus (simp;done))|apply get_set|apply get_app|(apply get_ne;focus omega)|(apply get_ne;focus (simp only [List.length_set,List.length_append,List.length_cons,List.length_nil];omega)));done)) (by rfl)) rfl ?_)
                    refine WD_nilR [5,q,p + 1,p + 4] [([0],none),([],none),([0],none),([],none),([],none),([1],none),([2],none),([],none),([3],some 3),([],none),([1],some 1)] ?_ rfl rfl (by decide +kernel) ?_
                    · simp only [List.nodup_cons,List.mem_cons,List.not_mem_nil,or_false,not_or,List.nodup_nil,and_true,not_false_eq_true];omega
                    repeat' first
 | (refine bn ?_)
                    refine ⟨rfl,⟨.busy,none,Eq.trans (b:=some (X .busy none)) (by (repeat first|assumption|exact get_last|(refine get_last2 ?_;focus (simp;done))|apply get_set|apply get_app|(apply get_ne;focus omega)|(apply get_ne;focus (simp only [List.length_set,List.length_append,List.length_cons,List.length_nil];omega)));done) (congrArg some (hX _ _))⟩,(fun _=>⟨out,cur ++ [.mk 1 (parseV (c :: r)).kind (parseV (c :: r)).n (parseV (c :: r)).s [] [] (tl : Int) (tc : Int)],(many + 1),.inr ?_,hok',hm'⟩),(fun e=>nomatch e)⟩
                    rw [← hX .ready none]
                    refine PRow.turn (X:=X .busy none) ?_ _
                    have k0:=hK0.a0
                    have k1:=hK0.a1
                    have k2:=hK0.a2
                    have k3:=hK0.a3
                    have k8:=hK0.a8
                    have hq0 : q ≠ 0:=(nd_base s10 (i:=0) (by decide)).1
                    have hq1 : q ≠ 1:=(nd_base s10 (i:=1) (by decide)).1
                    have hq2 : q ≠ 2:=(nd_base s10 (i:=2) (by decide)).1
                    have hqq3 : q ≠ 3:=(nd_base s10 (i:=3) (by decide)).1
                    have hq8 : q ≠ 8:=(nd_base s10 (i:=8) (by decide)).1
                    refine ⟨(by (repeat first|assumption|exact get_last|(refine get_last2 ?_;focus (simp;done))|apply get_set|apply get_app|(apply get_ne;focus omega)|(apply get_ne;focus (simp only [List.length_set,List.length_append,List.length_cons,List.length_nil];omega)));done),(by (repeat first|assumption|exact get_last|(refine get_last2 ?_;focus (simp;done))|apply get_set|apply get_app|(apply get_ne;focus omega)|(apply get_ne;focus (simp only [List.length_set,List.length_append,List.length_cons,List.length_nil];omega)));done),(by (repeat first|assumption|exact get_last|(refine get_last2 ?_;focus (simp;done))|apply get_set|apply get_app|(apply get_ne;focus omega)|(apply get_ne;focus (simp only [List.length_set,List.length_append,List.length_cons,List.length_nil];omega)));done),(by (repeat first|assumption|exact get_last|(refine get_last2 ?_;focus (simp;done))|apply get_set|apply get_app|(apply get_ne;focus omega)|(apply get_ne;focus (simp only [List.length_set,List.length_append,List.length_cons,List.length_nil];omega)));done),(by (repeat first|assumption|exact get_last|(refine get_last2 ?_;focus (simp;done))|apply get_set|apply get_app|(apply get_ne;focus omega)|(apply get_ne;focus (simp only [List.length_set,List.length_append,List.length_cons,List.length_nil];omega)));done),(by (repeat first|assumption|exact get_last|(refine get_last2 ?_;focus (simp;done))|apply get_set|apply get_app|(apply get_ne;focus omega)|(apply get_ne;focus (simp only [List.length_set,List.length_append,List.length_cons,List.length_nil];omega)));done),q,out.length,p + 4,_,_,[[i64 1,i64 (parseV (c :: r)).kind,i64 (parseV (c :: r)).n,str (parseV (c :: r)).s,str [],.sl none 8 [],i64 (tl : Int),i64 (tc : Int)]],get_set (by (repeat first|assumption|exact get_last|(refine get_last2 ?_;focus (simp;done))|apply get_set|apply get_app|(apply get_ne;focus omega)|(apply get_ne;focus (simp only [List.length_set,List.length_append,List.length_cons,List.length_nil];omega)));done),hixc _,get_ne hq3 (get_set hfr),?_,?_,hq3,by omega,hq9,?_⟩
                    · simp
                    · simp
                    intro sp' cap' e1 e2 e3
                    have hlx : (ndCs (cur ++ [.mk 1 (parseV (c :: r)).kind (parseV (c :: r)).n (parseV (c :: r)).s [] [] (tl : Int) (tc : Int)])).length = ([[i64 1,i64 (parseV (c :: r)).kind,i64 (parseV (c :: r)).n,str (parseV (c :: r)).s,str [],.sl none 8 [],i64 (tl : Int),i64 (tc : Int)]]).length:=(congrArg List.length hnx).trans (by first|rfl|(rw [hnil];rfl)|(simp;done))
                    refine pinv_app hK0 t1 t2 s3 s4 s5 t6 t7 t8 t9' s10 (fun i hi hq hc=>?_) (cv':=.mc (p + 4) (ndCs (cur ++ [.mk 1 (parseV (c :: r)).kind (parseV (c :: r)).n (parseV (c :: r)).s [] [] (tl : Int) (tc : Int)])).length cap') ?_ (.inr ⟨p + 4,cap',sp',rfl,?_,e2,?_,?_⟩) (fun i hi=>.inr (by rw [mcP,List.mem_singleton] at hi;omega)) hcnt
                    · have hir : p + 4 ≠ i:=by omega
                      repeat first|rw [List.getElem?_set_ne (Ne.symm hq)]|rw [List.getElem?_set_ne hir]
                      exact List.getElem?_append_left hi
                    · refine Eq.trans (by (repeat first|assumption|exact get_last|(refine get_last2 ?_;focus (simp;done))|apply get_set|apply get_app|(apply get_ne;focus omega)|(apply get_ne;focus (simp only [List.length_set,List.length_append,List.length_cons,List.length_nil];omega)));done) ?_
                      rw [hset,hlx]
                      try rfl
                    · rw [hlx];simpa using e1
                    · refine Eq.trans (by (repeat first|assumption|exact get_last|(refine get_last2 ?_;focus (simp;done))|apply get_set|apply get_app|(apply get_ne;focus omega)|(apply get_ne;focus (simp only [List.length_set,List.length_append,List.length_cons,List.length_nil];omega)));done) ?_
                      rw [hnx] ; simp [hnil]
                    · rw [hnx]
                      first|exact e3|(rw [← e3];simp [hnil])
                  | true =>
                    have hq3 : q ≠ p + 4:=by omega
                    have hc0 : cur = []:=ndCs_nil hnil
                    repeat' first
 | refine W_seq ?_
 | (refine idC ?_;refine cs rfl (fun _=>?_) (fun _=>?_))
 | (refine tn ?_)
                    all_goals first
                      | (exfalso;rename_i hh;exact Bool.noConfusion hh)
                      | skip
                    refine W_resv 1 ?_
                    refine W_hq (h':=K ++ [AObj.cells [.sc (.bool true)]] ++ [.free]) rfl ?_
                    have hfr : (K ++ [AObj.cells [.sc (.bool true)]] ++ [AObj.free])[p + 4]? = some .free:=by
                      have:=get_last (h:=K ++ [AObj.cells [.sc (.bool true)]]) (x:=AObj.free)
                      rw [hKl0] at this;exact this
                    refine W_draw0 rfl ?_
                    repeat' first
 | (refine idLdD ?_;refine dL q (fun _ hs=>D_loadB1 rfl (hs.trans (get_app t2)) (hix1 _)) rfl ?_)
 | (refine idLdD ?_;refine dL (p + 1) (fun _ hs=>D_loadBAe (c:=[i64 1,i64 (parseV (c :: r)).kind,i64 (parseV (c :: r)).n,str (parseV (c :: r)).s,str [],.sl none 8 [],i64 (tl : Int),i64 (tc : Int)]) rfl (hs.trans (get_app hN0)) (by simp) rfl) rfl ?_)
 | (refine idApD rfl ?_;refine dV (S_appN0 (els':=[[.sc (.int .i64 0),.sc (.int .i64 0),.sc (.int .i64 0),str [],str [],nilV,.sc (.int .i64 0),.sc (.int .i64 0)]]) (p + 4) rfl rfl hfr (by simp) rfl rfl (by simp) (by simp)) (bltL hfr) rfl ?_)
 | (refine idStD ?_;refine dS (S_storee (r:=q) rfl rfl rfl (by (repeat first|assumption|exact get_last|(refine get_last2 ?_;focus (simp;done))|apply get_set|apply get_app|(apply get_ne;focus omega)|(apply get_ne;focus (simp only [List.length_set,List.length_append,List.length_cons,List.length_nil];omega)));done) rfl rfl hsof (hsto _ _)) (bltL (by (repeat first|assumption|exact get_last|(refine get_last2 ?_;focus (simp;done))|apply get_set|apply get_app|(apply get_ne;focus omega)|(apply get_ne;focus (simp only [List.length_set,List.length_append,List.length_cons,List.length_nil];omega)));done)) ?_)
 | (apply d1 (hd:=rfl);case hop=>first|(apply D_move;rfl)|(apply D_ixC;rfl;rfl;all_goals omega)|exact D_litA rfl rfl|(apply D_len_nil;rfl))
 | (refine idDn ?_; first|refine dL _ (fun hp' hs=>D_loadB1 rfl (hs.trans (by (repeat first|assumption|exact get_last|(refine get_last2 ?_;focus (simp;done))|apply get_set|apply get_app|(apply get_ne;focus omega)|(apply get_ne;focus (simp only [List.length_set,List.length_append,List.length_cons,List.length_nil];omega)));done)) (by rfl)) rfl ?_)
                    refine WD_nilR [5,q,p + 1,p + 4] [([0],none),([],none),([],none),([1],none),([2],none),([],none),([],none),([3],some 3),([],none),([1],some 1)] ?_ rfl rfl (by decide +kernel) ?_
                    · simp only [List.nodup_cons,List.mem_cons,List.not_mem_nil,or_false,not_or,List.nodup_nil,and_true,not_false_eq_true];omega
                    refine tn ?_
                    refine W_rowCCt 182 q out.length (p + 4) (els:=[[.sc (.int .i64 0),.sc (.int .i64 0),.sc (.int .i64 0),str [],str [],nilV,.sc (.int .i64 0),.sc (.int .i64 0)]]) rfl (get_set (by (repeat first|assumption|exact get_last|(refine get_last2 ?_;focus (simp;done))|apply get_set|apply get_app|(apply get_ne;focus omega)|(apply get_ne;focus (simp only [List.length_set,List.length_append,List.length_cons,List.length_nil];omega)));done)) (hixc _) (get_ne hq3 (get_set hfr)) (by simp) (by simp) hq3 ?_
                    intro sp' cap' e1 e2 e3
                    have hof : ((0 : Nat) : Int).toNat * 8 + 8 ≤ (([[.sc (.int .i64 0),.sc (.int .i64 0),.sc (.int .i64 0),str [],str [],nilV,.sc (.int .i64 0),.sc (.int .i64 0)]]).flatten ++ sp').length:=by
                      show 0 * 8 + 8 ≤ _
                      simp only [List.flatten_append,List.flatten_cons,List.flatten_nil,List.append_nil,List.length_append,hccf,List.length_cons,List.length_nil,hc0,ndCs];omega
                    have hst2 : (([[.sc (.int .i64 0),.sc (.int .i64 0),.sc (.int .i64 0),str [],str [],nilV,.sc (.int .i64 0),.sc (.int .i64 0)]]).flatten ++ sp').take (((0 : Nat) : Int).toNat * 8) ++ [i64 1,i64 (parseV (c :: r)).kind,i64 (parseV (c :: r)).n,str (parseV (c :: r)).s,str [],.sl none 8 [],i64 (tl : Int),i64 (tc : Int)] ++ (([[.sc (.int .i64 0),.sc (.int .i64 0),.sc (.int .i64 0),str [],str [],nilV,.sc (.int .i64 0),.sc (.int .i64 0)]]).flatten ++ sp').drop (((0 : Nat) : Int).toNat * 8 + 8) = (ndCs (cur ++ [.mk 1 (parseV (c :: r)).kind (parseV (c :: r)).n (parseV (c :: r)).s [] [] (tl : Int) (tc : Int)])).flatten ++ sp':=by
                      show (([[.sc (.int .i64 0),.sc (.int .i64 0),.sc (.int .i64 0),str [],str [],nilV,.sc (.int .i64 0),.sc (.int .i64 0)]]).flatten ++ sp').take (0 * 8) ++ [i64 1,i64 (parseV (c :: r)).kind,i64 (parseV (c :: r)).n,str (parseV (c :: r)).s,str [],.sl none 8 [],i64 (tl : Int),i64 (tc : Int)] ++ (([[.sc (.int .i64 0),.sc (.int .i64 0),.sc (.int .i64 0),str [],str [],nilV,.sc (.int .i64 0),.sc (.int .i64 0)]]).flatten ++ sp').drop (0 * 8 + 8) = _
                      rw [hnx]
                      rw [hnil];simp
                    repeat' first
 | (refine idStL ?_;refine pS (S_storee (r:=(p + 4)) rfl rfl rfl (by (repeat first|assumption|exact get_last|(refine get_last2 ?_;focus (simp;done))|apply get_set|apply get_app|(apply get_ne;focus omega)|(apply get_ne;focus (simp only [List.length_set,List.length_append,List.length_cons,List.length_nil];omega)));done) rfl rfl hof hst2) ?_)
 | (apply p1 (hd:=rfl);case hop=>first|(apply D_ixC;rfl;rfl;all_goals (first|omega|(simp only [List.length_append,List.length_cons,List.length_nil];omega))))
 | refine W_region ?_
 | refine WL_nil ?_
 | (refine bn ?_)
                    refine ⟨rfl,⟨.busy,none,Eq.trans (b:=some (X .busy none)) (by (repeat first|assumption|exact get_last|(refine get_last2 ?_;focus (simp;done))|apply get_set|apply get_app|(apply get_ne;focus omega)|(apply get_ne;focus (simp only [List.length_set,List.length_append,List.length_cons,List.length_nil];omega)));done) (congrArg some (hX _ _))⟩,(fun _=>⟨out,cur ++ [.mk 1 (parseV (c :: r)).kind (parseV (c :: r)).n (parseV (c :: r)).s [] [] (tl : Int) (tc : Int)],(many + 1),.inl ?_,hok',hm'⟩),(fun e=>nomatch e)⟩
                    rw [← hX .ready none]
                    refine PInv.turn (X:=X .busy none) ?_ _
                    have hlx : (ndCs (cur ++ [.mk 1 (parseV (c :: r)).kind (parseV (c :: r)).n (parseV (c :: r)).s [] [] (tl : Int) (tc : Int)])).length = ([[.sc (.int .i64 0),.sc (.int .i64 0),.sc (.int .i64 0),str [],str [],nilV,.sc (.int .i64 0),.sc (.int .i64 0)]]).length:=(congrArg List.length hnx).trans (by first|rfl|(rw [hnil];rfl)|(simp;done))
                    refine pinv_app hK0 t1 t2 s3 s4 s5 t6 t7 t8 t9' s10 (fun i hi hq hc=>?_) (cv':=.mc (p + 4) (ndCs (cur ++ [.mk 1 (parseV (c :: r)).kind (parseV (c :: r)).n (parseV (c :: r)).s [] [] (tl : Int) (tc : Int)])).length cap') ?_ (.inr ⟨p + 4,cap',sp',rfl,?_,e2,?_,?_⟩) (fun i hi=>.inr (by rw [mcP,List.mem_singleton] at hi;omega)) hcnt
                    · have hir : p + 4 ≠ i:=by omega
                      repeat first|rw [List.getElem?_set_ne (Ne.symm hq)]|rw [List.getElem?_set_ne hir]
                      exact List.getElem?_append_left hi
                    · refine Eq.trans (by (repeat first|assumption|exact get_last|(refine get_last2 ?_;focus (simp;done))|apply get_set|apply get_app|(apply get_ne;focus omega)|(apply get_ne;focus (simp only [List.length_set,List.length_append,List.length_cons,List.length_nil];omega)));done) ?_
                      rw [hset,hlx]
                      try rfl
                    · rw [hlx];simpa using e1
                    · exact (by (repeat first|assumption|exact get_last|(refine get_last2 ?_;focus (simp;done))|apply get_set|apply get_app|(apply get_ne;focus omega)|(apply get_ne;focus (simp only [List.length_set,List.length_append,List.length_cons,List.length_nil];omega)));done)
                    · rw [hnx]
                      first|exact e3|(rw [← e3];simp [hnil])
                · have hrK:=(List.getElem?_eq_some_iff.1 v4).1
                  obtain ⟨hrb,hrq,hrv⟩:=s10.d3 _ (List.mem_append.2 (.inr (.head _))) rv (by rw [mcP];exact .head _)
                  have hr5 : rv ≠ 5:=fun e=>hrb (by rw [e];decide)
                  have hr9 : rv ≠ 9:=fun e=>hrb (by rw [e];decide)
                  have hrn:=ne_ty v4 hN0
                  by_cases hroom : (ndCs cur).length + 1 ≤ cap
                  · have hsp8 : 8 ≤ sp.length:=by
                      simp only [List.length_append,hccf] at v5;omega
                    have hys : ((ndCs cur).flatten ++ sp).take ((ndCs cur).length * 8) ++ [[i64 1,i64 (parseV (c :: r)).kind,i64 (parseV (c :: r)).n,str (parseV (c :: r)).s,str [],.sl none 8 [],i64 (tl : Int),i64 (tc : Int)]].flatten ++ ((ndCs cur).flatten ++ sp).drop ((ndCs cur).length * 8 + [[i64 1,i64 (parseV (c :: r)).kind,i64 (parseV (c :: r)).n,str (parseV (c :: r)).s,str [],.sl none 8 [],i64 (tl : Int),i64 (tc : Int)]].flatten.length) = (ndCs (cur ++ [.mk 1 (parseV (c :: r)).kind (parseV (c :: r)).n (parseV (c :: r)).s [] [] (tl : Int) (tc : Int)])).flatten ++ sp.drop 8:=by
                      rw [hnx,List.take_left' hccf,← List.drop_drop,List.drop_left' hccf,List.flatten_append];rfl
                    have hysz : ((ndCs cur).flatten ++ sp).take ((ndCs cur).length * 8) ++ [[.sc (.int .i64 0),.sc (.int .i64 0),.sc (.int .i64 0),str [],str [],nilV,.sc (.int .i64 0),.sc (.int .i64 0)]].flatten ++ ((ndCs cur).flatten ++ sp).drop ((ndCs cur).length * 8 + [[.sc (.int .i64 0),.sc (.int .i64 0),.sc (.int .i64 0),str [],str [],nilV,.sc (.int .i64 0),.sc (.int .i64 0)]].flatten.length) = (ndCs cur ++ [[.sc (.int .i64 0),.sc (.int .i64 0),.sc (.int .i64 0),str [],str [],nilV,.sc (.int .i64 0),.sc (.int .i64 0)]]).flatten ++ sp.drop 8:=by
                      rw [List.take_left' hccf,← List.drop_drop,List.drop_left' hccf,List.flatten_append];rfl
                    cases b with
                    | false =>
                      have hq3 : q ≠ p + 4:=by omega
                      have hr3 : rv ≠ p + 4:=by omega
                      repeat' first
 | (refine idC ?_;refine c0 rfl ?_)
 | (refine tn ?_)
                      all_goals first
                        | (exfalso;rename_i hh;exact Bool.noConfusion hh)
                        | skip
                      refine W_resv 1 ?_
                      refine W_hq (h':=K ++ [AObj.cells [.sc (.bool false)]] ++ [.free]) rfl ?_
                      have hfr : (K ++ [AObj.cells [.sc (.bool false)]] ++ [AObj.free])[p + 4]? = some .free:=by
                        have:=get_last (h:=K ++ [AObj.cells [.sc (.bool false)]]) (x:=AObj.free)
                        rw [hKl0] at this;exact this
                      refine W_draw0 rfl ?_
                      repeat' first
 | (refine idLdD ?_;refine dL q (fun _ hs=>D_loadB1 rfl (hs.trans (get_app t2)) (hix1 _)) rfl ?_)
 | (refine idLdD ?_;refine dL (p + 1) (fun _ hs=>D_loadBAe (c:=[i64 1,i64 (parseV (c :: r)).kind,i64 (parseV (c :: r)).n,str (parseV (c :: r)).s,str [],.sl none 8 [],i64 (tl : Int),i64 (tc : Int)]) rfl (hs.trans (get_app hN0)) (by simp) rfl) rfl ?_)
 | (refine idApD rfl ?_;refine dV (S_appCe (els':=[[i64 1,i64 (parseV (c :: r)).kind,i64 (parseV (c :: r)).n,str (parseV (c :: r)).s,str [],.sl none 8 [],i64 (tl : Int),i64 (tc : Int)]]) rfl rfl (get_app v4) v5 (by simp) (by simp only [List.length_cons,List.length_nil];omega) hys) (bltL (get_app v4)) rfl ?_)
 | (refine idStD ?_;refine dS (S_storee (r:=q) rfl rfl rfl (by (repeat first|assumption|exact get_last|(refine get_last2 ?_;focus (simp;done))|apply get_set|apply get_app|(apply get_ne;focus omega)|(apply get_ne;focus (simp only [List.length_set,List.length_append,List.length_cons,List.length_nil];omega)));done) rfl rfl hsof (hsto _ _)) (bltL (by (repeat first|assumption|exact get_last|(refine get_last2 ?_;focus (simp;done))|apply get_set|apply get_app|(apply get_ne;focus omega)|(apply get_ne;focus (simp only [List.length_set,List.length_append,List.length_cons,List.length_nil];omega)));done)) ?_)
 | (apply d1 (hd:=rfl);case hop=>first|(apply D_move;rfl)|(apply D_ixC;rfl;rfl;all_goals omega)|(apply D_lit;rfl;rfl;rfl;rfl))
 | (refine idDn ?_;first|refine dL _ (fun hp' hs=>D_loadB1 rfl (hs.trans (by (repeat first|assumption|exact get_last|(refine get_last2 ?_;focus (simp;done))|apply get_set|apply get_app|(apply get_ne;focus omega)|(apply get_ne;focus (simp only [List.length_set,List.length_append,List.length_cons,List.length_nil];omega)));done)) (by rfl)) rfl ?_)
                      refine WD_nilR [5,q,p + 1,rv,p + 4] [([0],none),([],none),([0],none),([],none),([],none),([1],none),([2],none),([],none),([3],some 3),([],none),([1],some 1)] ?_ rfl rfl (by decide +kernel) ?_
                      · simp only [List.nodup_cons,List.mem_cons,List.not_mem_nil,or_false,not_or,List.nodup_nil,and_true,not_false_eq_true];omega
                      repeat' first
 | (refine bn ?_)
                      refine ⟨rfl,⟨.busy,none,Eq.trans (b:=some (X .busy none)) (by (repeat first|assumption|exact get_last|(refine get_last2 ?_;focus (simp;done))|apply get_set|apply get_app|(apply get_ne;focus omega)|(apply get_ne;focus (simp only [List.length_set,List.length_append,List.length_cons,List.length_nil];omega)));done) (congrArg some (hX _ _))⟩,(fun _=>⟨out,cur ++ [.mk 1 (parseV (c :: r)).kind (parseV (c :: r)).n (parseV (c :: r)).s [] [] (tl : Int) (tc : Int)],(many + 1),.inl ?_,hok',hm'⟩),(fun e=>nomatch e)⟩
                      rw [← hX .ready none]
                      refine PInv.turn (X:=X .busy none) ?_ _
                      refine pinv_app hK0 t1 t2 s3 s4 s5 t6 t7 t8 t9' s10 (fun i hi hq hc=>?_) (cv':=.mc rv ((ndCs cur).length + 1) cap) (by (repeat first|assumption|exact get_last|(refine get_last2 ?_;focus (simp;done))|apply get_set|apply get_app|(apply get_ne;focus omega)|(apply get_ne;focus (simp only [List.length_set,List.length_append,List.length_cons,List.length_nil];omega)));done) (.inr ⟨rv,cap,sp.drop 8,?_,?_,v3,?_,?_⟩) (fun i hi=>.inl hi) hcnt
                      · have hir : rv ≠ i:=fun e=>hc (by rw [mcP,e];exact .head _)
                        repeat first|rw [List.getElem?_set_ne (Ne.symm hq)]|rw [List.getElem?_set_ne hir]
                        exact List.getElem?_append_left hi
                      · rw [hnx,List.length_append];rfl
                      · rw [hnx,List.length_append];exact hroom
                      · exact (by (repeat first|assumption|exact get_last|(refine get_last2 ?_;focus (simp;done))|apply get_set|apply get_app|(apply get_ne;focus omega)|(apply get_ne;focus (simp only [List.length_set,List.length_append,List.length_cons,List.length_nil];omega)));done)
                      · rw [hnx,List.flatten_append]
                        simp only [List.length_append,List.flatten_cons,List.flatten_nil,List.append_nil,List.length_drop,hccf,List.length_cons,List.length_nil] at v5 ⊢
                        omega
                    | true =>
                      have hq3 : q ≠ p + 4:=by omega
                      have hr3 : rv ≠ p + 4:=by omega
                      repeat' first
 | refine W_seq ?_
 | (refine idC ?_;refine cs rfl (fun _=>?_) (fun _=>?_))
 | (refine tn ?_)
                      all_goals first
                        | (exfalso;rename_i hh;exact Bool.noConfusion hh)
                        | skip
                      refine W_resv 1 ?_
                      refine W_hq (h':=K ++ [AObj.cells [.sc (.bool true)]] ++ [.free]) rfl ?_
                      have hfr : (K ++ [AObj.cells [.sc (.bool true)]] ++ [AObj.free])[p + 4]? = some .free:=by
                        have:=get_last (h:=K ++ [AObj.cells [.sc (.bool true)]]) (x:=AObj.free)
                        rw [hKl0] at this;exact this
                      refine W_draw0 rfl ?_
                      repeat' first
 | (refine idLdD ?_;refine dL q (fun _ hs=>D_loadB1 rfl (hs.trans (get_app t2)) (hix1 _)) rfl ?_)
 | (refine idLdD ?_;refine dL (p + 1) (fun _ hs=>D_loadBAe (c:=[i64 1,i64 (parseV (c :: r)).kind,i64 (parseV (c :: r)).n,str (parseV (c :: r)).s,str [],.sl none 8 [],i64 (tl : Int),i64 (tc : Int)]) rfl (hs.trans (get_app hN0)) (by simp) rfl) rfl ?_)
 | (refine idApD rfl ?_;refine dV (S_appCe (els':=[[.sc (.int .i64 0),.sc (.int .i64 0),.sc (.int .i64 0),str [],str [],nilV,.sc (.int .i64 0),.sc (.int .i64 0)]]) rfl rfl (get_app v4) v5 (by simp) (by simp only [List.length_cons,List.length_nil];omega) hysz) (bltL (get_app v4)) rfl ?_)
 | (refine idStD ?_;refine dS (S_storee (r:=q) rfl rfl rfl (by (repeat first|assumption|exact get_last|(refine get_last2 ?_;focus (simp;done))|apply get_set|apply get_app|(apply get_ne;focus omega)|(apply get_ne;focus (simp only [List.length_set,List.length_append,List.length_cons,List.length_nil];omega)));done) rfl rfl hsof (hsto _ _)) (bltL (by (repeat first|assumption|exact get_last|(refine get_last2 ?_;focus (simp;done))|apply get_set|apply get_app|(apply get_ne;focus omega)|(apply get_ne;focus (simp only [List.length_set,List.length_append,List.length_cons,List.length_nil];omega)));done)) ?_)
 | (apply d1 (hd:=rfl);case hop=>first|(apply D_move;rfl)|(apply D_lenC;rfl)|(apply D_ixC;rfl;rfl;all_goals omega)|exact D_litA rfl rfl)
 | (refine idDn ?_;first|refine dL _ (fun hp' hs=>D_loadB1 rfl (hs.trans (by (repeat first|assumption|exact get_last|(refine get_last2 ?_;focus (simp;done))|apply get_set|apply get_app|(apply get_ne;focus omega)|(apply get_ne;focus (simp only [List.length_set,List.length_append,List.length_cons,List.length_nil];omega)));done)) (by rfl)) rfl ?_)
                      refine WD_nilR [5,q,p + 1,rv,p + 4] [([0],none),([],none),([],none),([1],none),([2],none),([],none),([],none),([3],some 3),([],none),([1],some 1)] ?_ rfl rfl (by decide +kernel) ?_
                      · simp only [List.nodup_cons,List.mem_cons,List.not_mem_nil,or_false,not_or,List.nodup_nil,and_true,not_false_eq_true];omega
                      refine tn ?_
                      have hof : (((ndCs cur).length : Nat) : Int).toNat * 8 + 8 ≤ ((ndCs cur ++ [[.sc (.int .i64 0),.sc (.int .i64 0),.sc (.int .i64 0),str [],str [],nilV,.sc (.int .i64 0),.sc (.int .i64 0)]]).flatten ++ (sp.drop 8)).length:=by
                        show (ndCs cur).length * 8 + 8 ≤ _
                        simp only [List.flatten_append,List.flatten_cons,List.flatten_nil,List.append_nil,List.length_append,hccf,List.length_cons,List.length_nil];omega
                      have hst2 : ((ndCs cur ++ [[.sc (.int .i64 0),.sc (.int .i64 0),.sc (.int .i64 0),str [],str [],nilV,.sc (.int .i64 0),.sc (.int .i64 0)]]).flatten ++ (sp.drop 8)).take ((((ndCs cur).length : Nat) : Int).toNat * 8) ++ [i64 1,i64 (parseV (c :: r)).kind,i64 (parseV (c :: r)).n,str (parseV (c :: r)).s,str [],.sl none 8 [],i64 (tl : Int),i64 (tc : Int)] ++ ((ndCs cur ++ [[.sc (.int .i64 0),.sc (.int .i64 0),.sc (.int .i64 0),str [],str [],nilV,.sc (.int .i64 0),.sc (.int .i64 0)]]).flatten ++ (sp.drop 8)).drop ((((ndCs cur).length : Nat) : Int).toNat * 8 + 8) = (ndCs (cur ++ [.mk 1 (parseV (c :: r)).kind (parseV (c :: r)).n (parseV (c :: r)).s [] [] (tl : Int) (tc : Int)])).flatten ++ (sp.drop 8):=by
                        show ((ndCs cur ++ [[.sc (.int .i64 0),.sc (.int .i64 0),.sc (.int .i64 0),str [],str [],nilV,.sc (.int .i64 0),.sc (.int .i64 0)]]).flatten ++ (sp.drop 8)).take ((ndCs cur).length * 8) ++ [i64 1,i64 (parseV (c :: r)).kind,i64 (parseV (c :: r)).n,str (parseV (c :: r)).s,str [],.sl none 8 [],i64 (tl : Int),i64 (tc : Int)] ++ ((ndCs cur ++ [[.sc (.int .i64 0),.sc (.int .i64 0),.sc (.int .i64 0),str [],str [],nilV,.sc (.int .i64 0),.sc (.int .i64 0)]]).flatten ++ (sp.drop 8)).drop ((ndCs cur).length * 8 + 8) = _
                        rw [hnx]
                        rw [List.flatten_append,List.append_assoc (ndCs cur).flatten,List.take_left' hccf,← List.drop_drop,List.drop_left' hccf,List.flatten_append];simp
                      repeat' first
 | (refine idStL ?_;refine pS (S_storee (r:=rv) rfl rfl rfl (by (repeat first|assumption|exact get_last|(refine get_last2 ?_;focus (simp;done))|apply get_set|apply get_app|(apply get_ne;focus omega)|(apply get_ne;focus (simp only [List.length_set,List.length_append,List.length_cons,List.length_nil];omega)));done) rfl rfl hof hst2) ?_)
 | (apply p1 (hd:=rfl);case hop=>first|(apply D_ixC;rfl;rfl;all_goals (first|omega|(simp only [List.length_append,List.length_cons,List.length_nil];omega))))
 | refine W_region ?_
 | refine WL_nil ?_
 | (refine bn ?_)
                      refine ⟨rfl,⟨.busy,none,Eq.trans (b:=some (X .busy none)) (by (repeat first|assumption|exact get_last|(refine get_last2 ?_;focus (simp;done))|apply get_set|apply get_app|(apply get_ne;focus omega)|(apply get_ne;focus (simp only [List.length_set,List.length_append,List.length_cons,List.length_nil];omega)));done) (congrArg some (hX _ _))⟩,(fun _=>⟨out,cur ++ [.mk 1 (parseV (c :: r)).kind (parseV (c :: r)).n (parseV (c :: r)).s [] [] (tl : Int) (tc : Int)],(many + 1),.inl ?_,hok',hm'⟩),(fun e=>nomatch e)⟩
                      rw [← hX .ready none]
                      refine PInv.turn (X:=X .busy none) ?_ _
                      refine pinv_app hK0 t1 t2 s3 s4 s5 t6 t7 t8 t9' s10 (fun i hi hq hc=>?_) (cv':=.mc rv ((ndCs cur).length + 1) cap) (by (repeat first|assumption|exact get_last|(refine get_last2 ?_;focus (simp;done))|apply get_set|apply get_app|(apply get_ne;focus omega)|(apply get_ne;focus (simp only [List.length_set,List.length_append,List.length_cons,List.length_nil];omega)));done) (.inr ⟨rv,cap,sp.drop 8,?_,?_,v3,?_,?_⟩) (fun i hi=>.inl hi) hcnt
                      · have hir : rv ≠ i:=fun e=>hc (by rw [mcP,e];exact .head _)
                        repeat first|rw [List.getElem?_set_ne (Ne.symm hq)]|rw [List.getElem?_set_ne hir]
                        exact List.getElem?_append_left hi
                      · rw [hnx,List.length_append];rfl
                      · rw [hnx,List.length_append];exact hroom
                      · exact (by (repeat first|assumption|exact get_last|(refine get_last2 ?_;focus (simp;done))|apply get_set|apply get_app|(apply get_ne;focus omega)|(apply get_ne;focus (simp only [List.length_set,List.length_append,List.length_cons,List.length_nil];omega)));done)
                      · rw [hnx,List.flatten_append]
                        simp only [List.length_append,List.flatten_cons,List.flatten_nil,List.append_nil,List.length_drop,hccf,List.length_cons,List.length_nil] at v5 ⊢
                        omega
                  · cases b with
                    | false =>
                      have hq3 : q ≠ p + 4:=by omega
                      have hr3 : rv ≠ p + 4:=by omega
                      repeat' first
 | (refine idC ?_;refine c0 rfl ?_)
 | (refine tn ?_)
                      all_goals first
                        | (exfalso;rename_i hh;exact Bool.noConfusion hh)
                        | skip
                      refine W_resv 1 ?_
                      refine W_hq (h':=K ++ [AObj.cells [.sc (.bool false)]] ++ [.free]) rfl ?_
                      have hfr : (K ++ [AObj.cells [.sc (.bool false)]] ++ [AObj.free])[p + 4]? = some .free:=by
                        have:=get_last (h:=K ++ [AObj.cells [.sc (.bool false)]]) (x:=AObj.free)
                        rw [hKl0] at this;exact this
                      refine W_draw0 rfl ?_
                      repeat' first
 | (refine idLdD ?_;refine dL q (fun _ hs=>D_loadB1 rfl (hs.trans (get_app t2)) (hix1 _)) rfl ?_)
 | (refine idLdD ?_;refine dL (p + 1) (fun _ hs=>D_loadBAe (c:=[i64 1,i64 (parseV (c :: r)).kind,i64 (parseV (c :: r)).n,str (parseV (c :: r)).s,str [],.sl none 8 [],i64 (tl : Int),i64 (tc : Int)]) rfl (hs.trans (get_app hN0)) (by simp) rfl) rfl ?_)
 | (refine idApD rfl ?_;refine dV2 (S_appN1 (els:=ndCs cur) (els':=[[i64 1,i64 (parseV (c :: r)).kind,i64 (parseV (c :: r)).n,str (parseV (c :: r)).s,str [],.sl none 8 [],i64 (tl : Int),i64 (tc : Int)]]) (sp:=sp) (p + 4) rfl rfl hfr (get_app v4) rfl (by simp only [List.length_cons,List.length_nil];omega) (by simp) rfl (ndCs_w _) hccf rfl (by simp only [List.length_cons,List.length_nil];omega) (by simp only [List.length_cons,List.length_nil];omega)) (bltL hfr) rfl ?_)
 | (refine idStD ?_;refine dS (S_storee (r:=q) rfl rfl rfl (by (repeat first|assumption|exact get_last|(refine get_last2 ?_;focus (simp;done))|apply get_set|apply get_app|(apply get_ne;focus omega)|(apply get_ne;focus (simp only [List.length_set,List.length_append,List.length_cons,List.length_nil];omega)));done) rfl rfl hsof (hsto _ _)) (bltL (by (repeat first|assumption|exact get_last|(refine get_last2 ?_;focus (simp;done))|apply get_set|apply get_app|(apply get_ne;focus omega)|(apply get_ne;focus (simp only [List.length_set,List.length_append,List.length_cons,List.length_nil];omega)));done)) ?_)
 | (apply d1 (hd:=rfl);case hop=>first|(apply D_move;rfl)|(apply D_ixC;rfl;rfl;all_goals omega)|(apply D_lit;rfl;rfl;rfl;rfl))
 | (refine idDn ?_;first|refine dL _ (fun hp' hs=>D_loadB1 rfl (hs.trans (by (repeat first|assumption|exact get_last|(refine get_last2 ?_;focus (simp;done))|apply get_set|apply get_app|(apply get_ne;focus omega)|(apply get_ne;focus (simp only [List.length_set,List.length_append,List.length_cons,List.length_nil];omega)));done)) (by rfl)) rfl ?_)
                      refine WD_nilR [5,q,p + 1,rv,p + 4] [([0],none),([],none),([0],none),([],none),([],none),([1],none),([2],none),([],none),([4,3],some 4),([],none),([1],some 1)] ?_ rfl rfl (by decide +kernel) ?_
                      · simp only [List.nodup_cons,List.mem_cons,List.not_mem_nil,or_false,not_or,List.nodup_nil,and_true,not_false_eq_true];omega
                      repeat' first
 | (refine bn ?_)
                      refine ⟨rfl,⟨.busy,none,Eq.trans (b:=some (X .busy none)) (by (repeat first|assumption|exact get_last|(refine get_last2 ?_;focus (simp;done))|apply get_set|apply get_app|(apply get_ne;focus omega)|(apply get_ne;focus (simp only [List.length_set,List.length_append,List.length_cons,List.length_nil];omega)));done) (congrArg some (hX _ _))⟩,(fun _=>⟨out,cur ++ [.mk 1 (parseV (c :: r)).kind (parseV (c :: r)).n (parseV (c :: r)).s [] [] (tl : Int) (tc : Int)],(many + 1),.inr ?_,hok',hm'⟩),(fun e=>nomatch e)⟩
                      rw [← hX .ready none]
                      refine PRow.turn (X:=X .busy none) ?_ _
                      have k0:=hK0.a0
                      have k1:=hK0.a1
                      have k2:=hK0.a2
                      have k3:=hK0.a3
                      have k8:=hK0.a8
                      have hq0 : q ≠ 0:=(nd_base s10 (i:=0) (by decide)).1
                      have hq1 : q ≠ 1:=(nd_base s10 (i:=1) (by decide)).1
                      have hq2 : q ≠ 2:=(nd_base s10 (i:=2) (by decide)).1
                      have hqq3 : q ≠ 3:=(nd_base s10 (i:=3) (by decide)).1
                      have hq8 : q ≠ 8:=(nd_base s10 (i:=8) (by decide)).1
                      refine ⟨(by (repeat first|assumption|exact get_last|(refine get_last2 ?_;focus (simp;done))|apply get_set|apply get_app|(apply get_ne;focus omega)|(apply get_ne;focus (simp only [List.length_set,List.length_append,List.length_cons,List.length_nil];omega)));done),(by (repeat first|assumption|exact get_last|(refine get_last2 ?_;focus (simp;done))|apply get_set|apply get_app|(apply get_ne;focus omega)|(apply get_ne;focus (simp only [List.length_set,List.length_append,List.length_cons,List.length_nil];omega)));done),(by (repeat first|assumption|exact get_last|(refine get_last2 ?_;focus (simp;done))|apply get_set|apply get_app|(apply get_ne;focus omega)|(apply get_ne;focus (simp only [List.length_set,List.length_append,List.length_cons,List.length_nil];omega)));done),(by (repeat first|assumption|exact get_last|(refine get_last2 ?_;focus (simp;done))|apply get_set|apply get_app|(apply get_ne;focus omega)|(apply get_ne;focus (simp only [List.length_set,List.length_append,List.length_cons,List.length_nil];omega)));done),(by (repeat first|assumption|exact get_last|(refine get_last2 ?_;focus (simp;done))|apply get_set|apply get_app|(apply get_ne;focus omega)|(apply get_ne;focus (simp only [List.length_set,List.length_append,List.length_cons,List.length_nil];omega)));done),(by (repeat first|assumption|exact get_last|(refine get_last2 ?_;focus (simp;done))|apply get_set|apply get_app|(apply get_ne;focus omega)|(apply get_ne;focus (simp only [List.length_set,List.length_append,List.length_cons,List.length_nil];omega)));done),q,out.length,p + 4,_,_,ndCs cur ++ [[i64 1,i64 (parseV (c :: r)).kind,i64 (parseV (c :: r)).n,str (parseV (c :: r)).s,str [],.sl none 8 [],i64 (tl : Int),i64 (tc : Int)]],get_set (by (repeat first|assumption|exact get_last|(refine get_last2 ?_;focus (simp;done))|apply get_set|apply get_app|(apply get_ne;focus omega)|(apply get_ne;focus (simp only [List.length_set,List.length_append,List.length_cons,List.length_nil];omega)));done),hixc _,get_ne hq3 (get_set hfr),?_,?_,hq3,by omega,hq9,?_⟩
                      · simp
                      · simp
                      intro sp' cap' e1 e2 e3
                      have hlx : (ndCs (cur ++ [.mk 1 (parseV (c :: r)).kind (parseV (c :: r)).n (parseV (c :: r)).s [] [] (tl : Int) (tc : Int)])).length = (ndCs cur ++ [[i64 1,i64 (parseV (c :: r)).kind,i64 (parseV (c :: r)).n,str (parseV (c :: r)).s,str [],.sl none 8 [],i64 (tl : Int),i64 (tc : Int)]]).length:=(congrArg List.length hnx).trans (by first|rfl|(rw [hnil];rfl)|(simp;done))
                      refine pinv_app hK0 t1 t2 s3 s4 s5 t6 t7 t8 t9' s10 (fun i hi hq hc=>?_) (cv':=.mc (p + 4) (ndCs (cur ++ [.mk 1 (parseV (c :: r)).kind (parseV (c :: r)).n (parseV (c :: r)).s [] [] (tl : Int) (tc : Int)])).length cap') ?_ (.inr ⟨p + 4,cap',sp',rfl,?_,e2,?_,?_⟩) (fun i hi=>.inr (by rw [mcP,List.mem_singleton] at hi;omega)) hcnt
                      · have hir : p + 4 ≠ i:=by omega
                        repeat first|rw [List.getElem?_set_ne (Ne.symm hq)]|rw [List.getElem?_set_ne hir]
                        exact List.getElem?_append_left hi
                      · refine Eq.trans (by (repeat first|assumption|exact get_last|(refine get_last2 ?_;focus (simp;done))|apply get_set|apply get_app|(apply get_ne;focus omega)|(apply get_ne;focus (simp only [List.length_set,List.length_append,List.length_cons,List.length_nil];omega)));done) ?_
                        rw [hset,hlx,List.length_append]
                        try rfl
                      · rw [hlx];simpa using e1
                      · refine Eq.trans (by (repeat first|assumption|exact get_last|(refine get_last2 ?_;focus (simp;done))|apply get_set|apply get_app|(apply get_ne;focus omega)|(apply get_ne;focus (simp only [List.length_set,List.length_append,List.length_cons,List.length_nil];omega)));done) ?_
                        rw [hnx]
                      · rw [hnx]
                        first|exact e3|(rw [← e3];simp)
                    | true =>
                      have hq3 : q ≠ p + 4:=by omega
                      have hr3 : rv ≠ p + 4:=by omega
                      repeat' first
 | refine W_seq ?_
 | (refine idC ?_;refine cs rfl (fun _=>?_) (fun _=>?_))
 | (refine tn ?_)
                      all_goals first
                        | (exfalso;rename_i hh;exact Bool.noConfusion hh)
                        | skip
                      refine W_resv 1 ?_
                      refine W_hq (h':=K ++ [AObj.cells [.sc (.bool true)]] ++ [.free]) rfl ?_
                      have hfr : (K ++ [AObj.cells [.sc (.bool true)]] ++ [AObj.free])[p + 4]? = some .free:=by
                        have:=get_last (h:=K ++ [AObj.cells [.sc (.bool true)]]) (x:=AObj.free)
                        rw [hKl0] at this;exact this
                      refine W_draw0 rfl ?_
                      repeat' first
 | (refine idLdD ?_;refine dL q (fun _ hs=>D_loadB1 rfl (hs.trans (get_app t2)) (hix1 _)) rfl ?_)
 | (refine idLdD ?_;refine dL (p + 1) (fun _ hs=>D_loadBAe (c:=[i64 1,i64 (parseV (c :: r)).kind,i64 (parseV (c :: r)).n,str (parseV (c :: r)).s,str [],.sl none 8 [],i64 (tl : Int),i64 (tc : Int)]) rfl (hs.trans (get_app hN0)) (by simp) rfl) rfl ?_)
 | (refine idApD rfl ?_;refine dV2 (S_appN1 (els:=ndCs cur) (els':=[[.sc (.int .i64 0),.sc (.int .i64 0),.sc (.int .i64 0),str [],str [],nilV,.sc (.int .i64 0),.sc (.int .i64 0)]]) (sp:=sp) (p + 4) rfl rfl hfr (get_app v4) rfl (by simp only [List.length_cons,List.length_nil];omega) (by simp) rfl (ndCs_w _) hccf rfl (by simp only [List.length_cons,List.length_nil];omega) (by simp only [List.length_cons,List.length_nil];omega)) (bltL hfr) rfl ?_)
 | (refine idStD ?_;refine dS (S_storee (r:=q) rfl rfl rfl (by (repeat first|assumption|exact get_last|(refine get_last2 ?_;focus (simp;done))|apply get_set|apply get_app|(apply get_ne;focus omega)|(apply get_ne;focus (simp only [List.length_set,List.length_append,List.length_cons,List.length_nil];omega)));done) rfl rfl hsof (hsto _ _)) (bltL (by (repeat first|assumption|exact get_last|(refine get_last2 ?_;focus (simp;done))|apply get_set|apply get_app|(apply get_ne;focus omega)|(apply get_ne;focus (simp only [List.length_set,List.length_append,List.length_cons,List.length_nil];omega)));done)) ?_)
 | (apply d1 (hd:=rfl);case hop=>first|(apply D_move;rfl)|(apply D_lenC;rfl)|(apply D_ixC;rfl;rfl;all_goals omega)|exact D_litA rfl rfl)
 | (refine idDn ?_;first|refine dL _ (fun hp' hs=>D_loadB1 rfl (hs.trans (by (repeat first|assumption|exact get_last|(refine get_last2 ?_;focus (simp;done))|apply get_set|apply get_app|(apply get_ne;focus omega)|(apply get_ne;focus (simp only [List.length_set,List.length_append,List.length_cons,List.length_nil];omega)));done)) (by rfl)) rfl ?_)
                      refine WD_nilR [5,q,p + 1,rv,p + 4] [([0],none),([],none),([],none),([1],none),([2],none),([],none),([],none),([4,3],some 4),([],none),([1],some 1)] ?_ rfl rfl (by decide +kernel) ?_
                      · simp only [List.nodup_cons,List.mem_cons,List.not_mem_nil,or_false,not_or,List.nodup_nil,and_true,not_false_eq_true];omega
                      refine tn ?_
                      refine W_rowCCt 182 q out.length (p + 4) (els:=ndCs cur ++ [[.sc (.int .i64 0),.sc (.int .i64 0),.sc (.int .i64 0),str [],str [],nilV,.sc (.int .i64 0),.sc (.int .i64 0)]]) rfl (get_set (by (repeat first|assumption|exact get_last|(refine get_last2 ?_;focus (simp;done))|apply get_set|apply get_app|(apply get_ne;focus omega)|(apply get_ne;focus (simp only [List.length_set,List.length_append,List.length_cons,List.length_nil];omega)));done)) (hixc _) (get_ne hq3 (get_set hfr)) (by simp) (by simp) hq3 ?_
                      intro sp' cap' e1 e2 e3
                      have hof : (((ndCs cur).length : Nat) : Int).toNat * 8 + 8 ≤ ((ndCs cur ++ [[.sc (.int .i64 0),.sc (.int .i64 0),.sc (.int .i64 0),str [],str [],nilV,.sc (.int .i64 0),.sc (.int .i64 0)]]).flatten ++ sp').length:=by
                        show (ndCs cur).length * 8 + 8 ≤ _
                        simp only [List.flatten_append,List.flatten_cons,List.flatten_nil,List.append_nil,List.length_append,hccf,List.length_cons,List.length_nil];omega
                      have hst2 : ((ndCs cur ++ [[.sc (.int .i64 0),.sc (.int .i64 0),.sc (.int .i64 0),str [],str [],nilV,.sc (.int .i64 0),.sc (.int .i64 0)]]).flatten ++ sp').take ((((ndCs cur).length : Nat) : Int).toNat * 8) ++ [i64 1,i64 (parseV (c :: r)).kind,i64 (parseV (c :: r)).n,str (parseV (c :: r)).s,str [],.sl none 8 [],i64 (tl : Int),i64 (tc : Int)] ++ ((ndCs cur ++ [[.sc (.int .i64 0),.sc (.int .i64 0),.sc (.int .i64 0),str [],str [],nilV,.sc (.int .i64 0),.sc (.int .i64 0)]]).flatten ++ sp').drop ((((ndCs cur).length : Nat) : Int).toNat * 8 + 8) = (ndCs (cur ++ [.mk 1 (parseV (c :: r)).kind (parseV (c :: r)).n (parseV (c :: r)).s [] [] (tl : Int) (tc : Int)])).flatten ++ sp':=by
                        show ((ndCs cur ++ [[.sc (.int .i64 0),.sc (.int .i64 0),.sc (.int .i64 0),str [],str [],nilV,.sc (.int .i64 0),.sc (.int .i64 0)]]).flatten ++ sp').take ((ndCs cur).length * 8) ++ [i64 1,i64 (parseV (c :: r)).kind,i64 (parseV (c :: r)).n,str (parseV (c :: r)).s,str [],.sl none 8 [],i64 (tl : Int),i64 (tc : Int)] ++ ((ndCs cur ++ [[.sc (.int .i64 0),.sc (.int .i64 0),.sc (.int .i64 0),str [],str [],nilV,.sc (.int .i64 0),.sc (.int .i64 0)]]).flatten ++ sp').drop ((ndCs cur).length * 8 + 8) = _
                        rw [hnx]
                        rw [List.flatten_append,List.append_assoc (ndCs cur).flatten,List.take_left' hccf,← List.drop_drop,List.drop_left' hccf,List.flatten_append];simp
                      repeat' first
 | (refine idStL ?_;refine pS (S_storee (r:=(p + 4)) rfl rfl rfl (by (repeat first|assumption|exact get_last|(refine get_last2 ?_;focus (simp;done))|apply get_set|apply get_app|(apply get_ne;focus omega)|(apply get_ne;focus (simp only [List.length_set,List.length_append,List.length_cons,List.length_nil];omega)));done) rfl rfl hof hst2) ?_)
 | (apply p1 (hd:=rfl);case hop=>first|(apply D_ixC;rfl;rfl;all_goals (first|omega|(simp only [List.length_append,List.length_cons,List.length_nil];omega))))
 | refine W_region ?_
 | refine WL_nil ?_
 | (refine bn ?_)
                      refine ⟨rfl,⟨.busy,none,Eq.trans (b:=some (X .busy none)) (by (repeat first|assumption|exact get_last|(refine get_last2 ?_;focus (simp;done))|apply get_set|apply get_app|(apply get_ne;focus omega)|(apply get_ne;focus (simp only [List.length_set,List.length_append,List.length_cons,List.length_nil];omega)));done) (congrArg some (hX _ _))⟩,(fun _=>⟨out,cur ++ [.mk 1 (parseV (c :: r)).kind (parseV (c :: r)).n (parseV (c :: r)).s [] [] (tl : Int) (tc : Int)],(many + 1),.inl ?_,hok',hm'⟩),(fun e=>nomatch e)⟩
                      rw [← hX .ready none]
                      refine PInv.turn (X:=X .busy none) ?_ _
                      have hlx : (ndCs (cur ++ [.mk 1 (parseV (c :: r)).kind (parseV (c :: r)).n (parseV (c :: r)).s [] [] (tl : Int) (tc : Int)])).length = (ndCs cur ++ [[.sc (.int .i64 0),.sc (.int .i64 0),.sc (.int .i64 0),str [],str [],nilV,.sc (.int .i64 0),.sc (.int .i64 0)]]).length:=(congrArg List.length hnx).trans (by first|rfl|(rw [hnil];rfl)|(simp;done))
                      refine pinv_app hK0 t1 t2 s3 s4 s5 t6 t7 t8 t9' s10 (fun i hi hq hc=>?_) (cv':=.mc (p + 4) (ndCs (cur ++ [.mk 1 (parseV (c :: r)).kind (parseV (c :: r)).n (parseV (c :: r)).s [] [] (tl : Int) (tc : Int)])).length cap') ?_ (.inr ⟨p + 4,cap',sp',rfl,?_,e2,?_,?_⟩) (fun i hi=>.inr (by rw [mcP,List.mem_singleton] at hi;omega)) hcnt
                      · have hir : p + 4 ≠ i:=by omega
                        repeat first|rw [List.getElem?_set_ne (Ne.symm hq)]|rw [List.getElem?_set_ne hir]
                        exact List.getElem?_append_left hi
                      · refine Eq.trans (by (repeat first|assumption|exact get_last|(refine get_last2 ?_;focus (simp;done))|apply get_set|apply get_app|(apply get_ne;focus omega)|(apply get_ne;focus (simp only [List.length_set,List.length_append,List.length_cons,List.length_nil];omega)));done) ?_
                        rw [hset,hlx,List.length_append]
                        try rfl
                      · rw [hlx];simpa using e1
                      · exact (by (repeat first|assumption|exact get_last|(refine get_last2 ?_;focus (simp;done))|apply get_set|apply get_app|(apply get_ne;focus omega)|(apply get_ne;focus (simp only [List.length_set,List.length_append,List.length_cons,List.length_nil];omega)));done)
                      · rw [hnx]
                        first|exact e3|(rw [← e3];simp)
              · have hnn : NamedP (c :: r):=by
                  by_cases hn : NamedP (c :: r)
                  · exact hn
                  · rw [leaf_no (by rw [hv1];decide) hn] at hlf;cases hlf
                rw [leaf_n (by rw [hv1];decide) hnn] at hlf
                cases hlf
                rw [hv1,hv2] at hvp
                rw [dP_t.mpr hnn] at hnmd
                repeat' first
 | (apply p1 (hd:=rfl);case hop=>first|(apply D_move;rfl)|(apply D_assign;rfl)|(apply D_pc hcont;rfl;exact .same rfl (.same rfl .nil))|(apply D_pc hidxo;rfl;exact .same rfl (.same rfl .nil))|(apply D_pc hvp;rfl;exact .same rfl .nil)|(apply D_pc hnmd;rfl;exact .same rfl .nil)|exact D_sc (D_int rfl rfl rfl) (congrArg (Value.int IntKind.i64) hmany)|(apply D_int;rfl;rfl;rfl)|(apply D_ext;rfl;rfl)|exact D_fldB rfl)
 | refine W_seq ?_
 | refine W_region ?_
 | (refine idC ?_;first|refine c0 rfl ?_|refine cs rfl (fun _=>?_) (fun _=>?_))
 | refine WL_nil ?_
 | refine tn ?_
 | refine bn ?_
 | refine W_skip ?_
 | refine W_block ?_
 | (refine idLd ?_;first|refine p1L (D_loadB1 rfl (by (repeat first|assumption|exact get_last|(refine get_last2 ?_;focus (simp;done))|apply get_set|apply get_app|(apply get_ne;focus omega)|(apply get_ne;focus (simp only [List.length_set,List.length_append,List.length_cons,List.length_nil];omega)));done) (by rfl)) rfl ?_)
 | (refine idA ?_;refine m_alloc rfl ?_)
 | (refine idS ?_;first|refine pS (S_store rfl rfl rfl (by (repeat first|assumption|exact get_last|(refine get_last2 ?_;focus (simp;done))|apply get_set|apply get_app|(apply get_ne;focus omega)|(apply get_ne;focus (simp only [List.length_set,List.length_append,List.length_cons,List.length_nil];omega)));done) (by rfl) (by rfl) (by rfl)) ?_)
                all_goals first
                  | (exfalso;omega)
                  | (exfalso;rename_i hh;exact Bool.noConfusion hh)
                  | skip
                refine W_draw0 rfl ?_
                repeat' first
 | (apply d1 (hd:=rfl);case hop=>first|exact D_fldB rfl)
 | (refine idDn ?_;first|refine dS (S_store rfl rfl rfl (by (repeat first|assumption|exact get_last|(refine get_last2 ?_;focus (simp;done))|apply get_set|apply get_app|(apply get_ne;focus omega)|(apply get_ne;focus (simp only [List.length_set,List.length_append,List.length_cons,List.length_nil];omega)));done) (by rfl) (by rfl) (by rfl)) (bltL (by (repeat first|assumption|exact get_last|(refine get_last2 ?_;focus (simp;done))|apply get_set|apply get_app|(apply get_ne;focus omega)|(apply get_ne;focus (simp only [List.length_set,List.length_append,List.length_cons,List.length_nil];omega)));done)) ?_|refine dL _ (fun hp' hs=>D_loadB1 rfl (hs.trans (by (repeat first|assumption|exact get_last|(refine get_last2 ?_;focus (simp;done))|apply get_set|apply get_app|(apply get_ne;focus omega)|(apply get_ne;focus (simp only [List.length_set,List.length_append,List.length_cons,List.length_nil];omega)));done)) (by rfl)) rfl ?_)
                refine WD_nilR [p,p + 1] [([],none),([0],none),([],none),([1],some 1),([],none),([1],some 1)] ?_ rfl rfl (by decide +kernel) ?_
                · simp only [List.nodup_cons,List.mem_cons,List.not_mem_nil,or_false,not_or,List.nodup_nil,and_true,not_false_eq_true,List.length_set,hHl];omega
                repeat' first
 | refine W_seq ?_
 | refine tn ?_
 | (refine bn ?_)
                refine W_weak (s':=⟨[(6,.bp 5 0),(10,i64 (out.length : Int)),(11,.bp (p + 1) 0)],_,⟨[],_⟩⟩) ⟨⟨rfl,rfl,rfl,trivial⟩,rfl,rfl⟩ ?_
                refine W_gen fun K hK=>?_
                have hP7:=hPH.many (m':=many + 1) (by omega) (by omega)
                have hKl : K.length = p + 3:=by rw [hK];simp [hHl]
                have hPK : PInv (X .busy none) out cur (many + 1) K:=by
                  rw [hK]
                  repeat refine PInv.node ?_ (by (repeat first|assumption|exact get_last|(refine get_last2 ?_;focus (simp;done))|apply get_set|apply get_app|(apply get_ne;focus omega)|(apply get_ne;focus (simp only [List.length_set,List.length_append,List.length_cons,List.length_nil];omega)));done) (by first|omega|(simp only [List.length_set,List.length_append,List.length_cons,List.length_nil];omega)) _
                  exact hP7.app _
                have hNK : K[p + 1]? = some (.cells [i64 2,i64 0,i64 0,str [],str (c :: r),.sl none 8 [],i64 (tl : Int),i64 (tc : Int)]):=by
                  rw [hK];exact (by (repeat first|assumption|exact get_last|(refine get_last2 ?_;focus (simp;done))|apply get_set|apply get_app|(apply get_ne;focus omega)|(apply get_ne;focus (simp only [List.length_set,List.length_append,List.length_cons,List.length_nil];omega)));done)
                have hcn:=hPH.cnt
                have hcnt : cur.length + 1 + cntL out ≤ many + 1:=by omega
                have hm' : mach leafT ts (cur ++ [.mk 2 0 0 [] (c :: r) [] (tl : Int) (tc : Int)]) out.reverse (many + 1) = R:=hm
                clear hP7 hK hPH hT hN s1 s2 s3 s4 s5 s6 s7 s8 s9 s10 f0 f1 f2 f3 f7 f8 f9 hqn hqp hcont hidxc hidxo hvp hnmd
                obtain ⟨hvs,cv,nv,q,qc,qs,s1,s2,s3,s4,s5,s6,s7,s8,s9,s10⟩:=hPK.sl
                have hqK:=(List.getElem?_eq_some_iff.1 s2).1
                have hqn:=ne_ty s2 hNK
                have hq5 : q ≠ 5:=(nd_base s10 (i:=5) (by decide)).1
                have hixc : ∀ u,(hvs ++ [u] ++ qs)[out.length]? = some u:=fun u=>by
                  rw [List.append_assoc,List.getElem?_append_right (by omega),s5,Nat.sub_self];rfl
                have hix1 : ∀ u,(hvs ++ [u] ++ qs)[((out.length : Nat) : Int).toNat * 1]? = some u:=fun u=>by
                  show (hvs ++ [u] ++ qs)[out.length * 1]? = _
                  rw [Nat.mul_one];exact hixc u
                have hsto : ∀ u v,(hvs ++ [u] ++ qs).take (((out.length : Nat) : Int).toNat * 1) ++ [v] ++ (hvs ++ [u] ++ qs).drop (((out.length : Nat) : Int).toNat * 1 + 1) = hvs ++ [v] ++ qs:=fun u v=>by
                  show (hvs ++ [u] ++ qs).take (out.length * 1) ++ [v] ++ (hvs ++ [u] ++ qs).drop (out.length * 1 + 1) = _
                  rw [Nat.mul_one,List.append_assoc hvs [u] qs,List.take_left' s5,← List.drop_drop,List.drop_left' s5];rfl
                have hsof : ((out.length : Nat) : Int).toNat * 1 + 1 ≤ (hvs ++ [cv] ++ qs).length:=by
                  show out.length * 1 + 1 ≤ _
                  simp only [List.length_append,List.length_cons,List.length_nil];omega
                have hset : ∀ u v,(hvs ++ [u] ++ qs).set out.length v = hvs ++ [v] ++ qs:=fun u v=>by
                  rw [List.append_assoc,List.set_append_right _ _ (by omega),s5,Nat.sub_self,List.append_assoc];rfl
                have hccl : (ndCs cur).length = cur.length:=ndCs_len _
                have hccf : (ndCs cur).flatten.length = (ndCs cur).length * 8:=flat_len (ndCs_w _)
                have hcl5 : cur.length + 1 ≤ 5000:=by have:=hPK.lim;omega
                have hnx : ndCs (cur ++ [.mk 2 0 0 [] (c :: r) [] (tl : Int) (tc : Int)]) = ndCs cur ++ [[i64 2,i64 0,i64 0,str [],str (c :: r),.sl none 8 [],i64 (tl : Int),i64 (tc : Int)]]:=by rw [ndCs_app];simp [ndCs,ndC]
                refine W_coin rfl rfl rfl (by decide +kernel) (by decide +kernel) (by decide +kernel) (by decide +kernel) (by decide +kernel) (by decide +kernel) ?_
                intro b
                have hK0 : PInv (X .busy none) out cur (many + 1) (K ++ [.cells [.sc (.bool b)]]):=hPK.app _
                have hN0 : (K ++ [AObj.cells [.sc (.bool b)]])[p + 1]? = some (.cells [i64 2,i64 0,i64 0,str [],str (c :: r),.sl none 8 [],i64 (tl : Int),i64 (tc : Int)]):=get_app hNK
                have t1 : (K ++ [AObj.cells [.sc (.bool b)]])[5]? = _:=get_app s1
                have t2 : (K ++ [AObj.cells [.sc (.bool b)]])[q]? = _:=get_app s2
                have t6 : (K ++ [AObj.cells [.sc (.bool b)]])[6]? = _:=get_app s6
                have t7:=s7.app (.cells [.sc (.bool b)])
                have t8 : ∀ (i : Nat) (x : List Nd × Nd) (v : AV),out[i]? = some x → hvs[i]? = some v → SlK 8 tN (ndCs x.1) v (K ++ [.cells [.sc (.bool b)]]):=fun i x v hx hv=>(s8 i x v hx hv).app _
                have t9:=s9.app (.cells [.sc (.bool b)])
                have t9':=t9
                have k9:=hK0.a9
                have hq9 : q ≠ 9:=(nd_base s10 (i:=9) (by decide)).1
                have hKl0 : (K ++ [AObj.cells [.sc (.bool b)]]).length = p + 4:=by rw [List.length_append,hKl];rfl
                clear s1 s2 s6 s7 s8 s9 hPK hNK
                rcases t9 with ⟨rfl,hnil⟩ | ⟨rv,cap,sp,rfl,v2,v3,v4,v5⟩
                · cases b with
                  | false =>
                    have hq3 : q ≠ p + 4:=by omega
                    have hc0 : cur = []:=ndCs_nil hnil
                    repeat' first
 | (refine idC ?_;refine c0 rfl ?_)
 | (refine tn ?_)
                    all_goals first
                      | (exfalso;rename_i hh;exact Bool.noConfusion hh)
                      | skip
                    refine W_resv 1 ?_
                    refine W_hq (h':=K ++ [AObj.cells [.sc (.bool false)]] ++ [.free]) rfl ?_
                    have hfr : (K ++ [AObj.cells [.sc (.bool false)]] ++ [AObj.free])[p + 4]? = some .free:=by
                      have:=get_last (h:=K ++ [AObj.cells [.sc (.bool false)]]) (x:=AObj.free)
                      rw [hKl0] at this;exact this
                    refine W_draw0 rfl ?_
                    repeat' first
 | (refine idLdD ?_;refine dL q (fun _ hs=>D_loadB1 rfl (hs.trans (get_app t2)) (hix1 _)) rfl ?_)
 | (refine idLdD ?_;refine dL (p + 1) (fun _ hs=>D_loadBAe (c:=[i64 2,i64 0,i64 0,str [],str (c :: r),.sl none 8 [],i64 (tl : Int),i64 (tc : Int)]) rfl (hs.trans (get_app hN0)) (by simp) rfl) rfl ?_)
 | (refine idApD rfl ?_;refine dV (S_appN0 (els':=[[i64 2,i64 0,i64 0,str [],str (c :: r),.sl none 8 [],i64 (tl : Int),i64 (tc : Int)]]) (p + 4) rfl rfl hfr (by simp) rfl rfl (by simp) (by simp)) (bltL hfr) rfl ?_)
 | (refine idStD ?_;refine dS (S_storee (r:=q) rfl rfl rfl (by (repeat first|assumption|exact get_last|(refine get_last2 ?_;focus (simp;done))|apply get_set|apply get_app|(apply get_ne;focus omega)|(apply get_ne;focus (simp only [List.length_set,List.length_append,List.length_cons,List.length_nil];omega)));done) rfl rfl hsof (hsto _ _)) (bltL (by (repeat first|assumption|exact get_last|(refine get_last2 ?_;focus (simp;done))|apply get_set|apply get_app|(apply get_ne;focus omega)|(apply get_ne;focus (simp only [List.length_set,List.length_append,List.length_cons,List.length_nil];omega)));done)) ?_)
 | (apply d1 (hd:=rfl);case hop=>first|(apply D_move;rfl)|(apply D_ixC;rfl;rfl;all_goals omega)|(apply D_lit;rfl;rfl;rfl;rfl))
 | (refine idDn ?_; first|refine dL _ (fun hp' hs=>D_loadB1 rfl (hs.trans (by (repeat first|assumption|exact get_last|(refine get_last2 ?_;focus (simp;done))|apply get_set|apply get_app|(apply get_ne;focus omega)|(apply get_ne;focus (simp only [List.length_set,List.length_append,List.length_cons,List.length_nil];omega)));done)) (by rfl)) rfl ?_)
                    refine WD_nilR [5,q,p + 1,p + 4] [([0],none),([],none),([0],none),([],none),([],none),([1],none),([2],none),([],none),([3],some 3),([],none),([1],some 1)] ?_ rfl rfl (by decide +kernel) ?_
                    · simp only [List.nodup_cons,List.mem_cons,List.not_mem_nil,or_false,not_or,List.nodup_nil,and_true,not_false_eq_true];omega
                    repeat' first
 | (refine bn ?_)
                    refine ⟨rfl,⟨.busy,none,Eq.trans (b:=some (X .busy none)) (by (repeat first|assumption|exact get_last|(refine get_last2 ?_;focus (simp;done))|apply get_set|apply get_app|(apply get_ne;focus omega)|(apply get_ne;focus (simp only [List.length_set,List.length_append,List.length_cons,List.length_nil];omega)));done) (congrArg some (hX _ _))⟩,(fun _=>⟨out,cur ++ [.mk 2 0 0 [] (c :: r) [] (tl : Int) (tc : Int)],(many + 1),.inr ?_,hok',hm'⟩),(fun e=>nomatch e)⟩
                    rw [← hX .ready none]
                    refine PRow.turn (X:=X .busy none) ?_ _
                    have k0:=hK0.a0
                    have k1:=hK0.a1
                    have k2:=hK0.a2
                    have k3:=hK0.a3
                    have k8:=hK0.a8
                    have hq0 : q ≠ 0:=(nd_base s10 (i:=0) (by decide)).1
                    have hq1 : q ≠ 1:=(nd_base s10 (i:=1) (by decide)).1
                    have hq2 : q ≠ 2:=(nd_base s10 (i:=2) (by decide)).1
                    have hqq3 : q ≠ 3:=(nd_base s10 (i:=3) (by decide)).1
                    have hq8 : q ≠ 8:=(nd_base s10 (i:=8) (by decide)).1
                    refine ⟨(by (repeat first|assumption|exact get_last|(refine get_last2 ?_;focus (simp;done))|apply get_set|apply get_app|(apply get_ne;focus omega)|(apply get_ne;focus (simp only [List.length_set,List.length_append,List.length_cons,List.length_nil];omega)));done),(by (repeat first|assumption|exact get_last|(refine get_last2 ?_;focus (simp;done))|apply get_set|apply get_app|(apply get_ne;focus omega)|(apply get_ne;focus (simp only [List.length_set,List.length_append,List.length_cons,List.length_nil];omega)));done),(by (repeat first|assumption|exact get_last|(refine get_last2 ?_;focus (simp;done))|apply get_set|apply get_app|(apply get_ne;focus omega)|(apply get_ne;focus (simp only [List.length_set,List.length_append,List.length_cons,List.length_nil];omega)));done),(by (repeat first|assumption|exact get_last|(refine get_last2 ?_;focus (simp;done))|apply get_set|apply get_app|(apply get_ne;focus omega)|(apply get_ne;focus (simp only [List.length_set,List.length_append,List.length_cons,List.length_nil];omega)));done),(by (repeat first|assumption|exact get_last|(refine get_last2 ?_;focus (simp;done))|apply get_set|apply get_app|(apply get_ne;focus omega)|(apply get_ne;focus (simp only [List.length_set,List.length_append,List.length_cons,List.length_nil];omega)));done),(by (repeat first|assumption|exact get_last|(refine get_last2 ?_;focus (simp;done))|apply get_set|apply get_app|(apply get_ne;focus omega)|(apply get_ne;focus (simp only [List.length_set,List.length_append,List.length_cons,List.length_nil];omega)));done),q,out.length,p + 4,_,_,[[i64 2,i64 0,i64 0,str [],str (c :: r),.sl none 8 [],i64 (tl : Int),i64 (tc : Int)]],get_set (by (repeat first|assumption|exact get_last|(refine get_last2 ?_;focus (simp;done))|apply get_set|apply get_app|(apply get_ne;focus omega)|(apply get_ne;focus (simp only [List.length_set,List.length_append,List.length_cons,List.length_nil];omega)));done),hixc _,get_ne hq3 (get_set hfr),?_,?_,hq3,by omega,hq9,?_⟩
                    · simp
                    · simp
                    intro sp' cap' e1 e2 e3
                    have hlx : (ndCs (cur ++ [.mk 2 0 0 [] (c :: r) [] (tl : Int) (tc : Int)])).length = ([[i64 2,i64 0,i64 0,str [],str (c :: r),.sl none 8 [],i64 (tl : Int),i64 (tc : Int)]]).length:=(congrArg List.length hnx).trans (by first|rfl|(rw [hnil];rfl)|(simp;done))
                    refine pinv_app hK0 t1 t2 s3 s4 s5 t6 t7 t8 t9' s10 (fun i hi hq hc=>?_) (cv':=.mc (p + 4) (ndCs (cur ++ [.mk 2 0 0 [] (c :: r) [] (tl : Int) (tc : Int)])).length cap') ?_ (.inr ⟨p + 4,cap',sp',rfl,?_,e2,?_,?_⟩) (fun i hi=>.inr (by rw [mcP,List.mem_singleton] at hi;omega)) hcnt
                    · have hir : p + 4 ≠ i:=by omega
                      repeat first|rw [List.getElem?_set_ne (Ne.symm hq)]|rw [List.getElem?_set_ne hir]
                      exact List.getElem?_append_left hi
                    · refine Eq.trans (by (repeat first|assumption|exact get_last|(refine get_last2 ?_;focus (simp;done))|apply get_set|apply get_app|(apply get_ne;focus omega)|(apply get_ne;focus (simp only [List.length_set,List.length_append,List.length_cons,List.length_nil];omega)));done) ?_
                      rw [hset,hlx]
                      try rfl
                    · rw [hlx];simpa using e1
                    · refine Eq.trans (by (repeat first|assumption|exact get_last|(refine get_last2 ?_;focus (simp;done))|apply get_set|apply get_app|(apply get_ne;focus omega)|(apply get_ne;focus (simp only [List.length_set,List.length_append,List.length_cons,List.length_nil];omega)));done) ?_
                      rw [hnx] ; simp [hnil]
                    · rw [hnx]
                      first|exact e3|(rw [← e3];simp [hnil])
                  | true =>
                    have hq3 : q ≠ p + 4:=by omega
                    have hc0 : cur = []:=ndCs_nil hnil
                    repeat' first
 | refine W_seq ?_
 | (refine idC ?_;refine cs rfl (fun _=>?_) (fun _=>?_))
 | (refine tn ?_)
                    all_goals first
                      | (exfalso;rename_i hh;exact Bool.noConfusion hh)
                      | skip
                    refine W_resv 1 ?_
                    refine W_hq (h':=K ++ [AObj.cells [.sc (.bool true)]] ++ [.free]) rfl ?_
                    have hfr : (K ++ [AObj.cells [.sc (.bool true)]] ++ [AObj.free])[p + 4]? = some .free:=by
                      have:=get_last (h:=K ++ [AObj.cells [.sc (.bool true)]]) (x:=AObj.free)
                      rw [hKl0] at this;exact this
                    refine W_draw0 rfl ?_
                    repeat' first
 | (refine idLdD ?_;refine dL q (fun _ hs=>D_loadB1 rfl (hs.trans (get_app t2)) (hix1 _)) rfl ?_)
 | (refine idLdD ?_;refine dL (p + 1) (fun _ hs=>D_loadBAe (c:=[i64 2,i64 0,i64 0,str [],str (c :: r),.sl none 8 [],i64 (tl : Int),i64 (tc : Int)]) rfl (hs.trans (get_app hN0)) (by simp) rfl) rfl ?_)
 | (refine idApD rfl ?_;refine dV (S_appN0 (els':=[[.sc (.int .i64 0),.sc (.int .i64 0),.sc (.int .i64 0),str [],str [],nilV,.sc (.int .i64 0),.sc (.int .i64 0)]]) (p + 4) rfl rfl hfr (by simp) rfl rfl (by simp) (by simp)) (bltL hfr) rfl ?_)
 | (refine idStD ?_;refine dS (S_storee (r:=q) rfl rfl rfl (by (repeat first|assumption|exact get_last|(refine get_last2 ?_;focus (simp;done))|apply get_set|apply get_app|(apply get_ne;focus omega)|(apply get_ne;focus (simp only [List.length_set,List.length_append,List.length_cons,List.length_nil];omega)));done) rfl rfl hsof (hsto _ _)) (bltL (by (repeat first|assumption|exact get_last|(refine get_last2 ?_;focus (simp;done))|apply get_set|apply get_app|(apply get_ne;focus omega)|(apply get_ne;focus (simp only [List.length_set,List.length_append,List.length_cons,List.length_nil];omega)));done)) ?_)
 | (apply d1 (hd:=rfl);case hop=>first|(apply D_move;rfl)|(apply D_ixC;rfl;rfl;all_goals omega)|exact D_litA rfl rfl|(apply D_len_nil;rfl))
 | (refine idDn ?_; first|refine dL _ (fun hp' hs=>D_loadB1 rfl (hs.trans (by (repeat first|assumption|exact get_last|(refine get_last2 ?_;focus (simp;done))|apply get_set|apply get_app|(apply get_ne;focus omega)|(apply get_ne;focus (simp only [List.length_set,List.length_append,List.length_cons,List.length_nil];omega)));done)) (by rfl)) rfl ?_)
                    refine WD_nilR [5,q,p + 1,p + 4] [([0],none),([],none),([],none),([1],none),([2],none),([],none),([],none),([3],some 3),([],none),([1],some 1)] ?_ rfl rfl (by decide +kernel) ?_
                    · simp only [List.nodup_cons,List.mem_cons,List.not_mem_nil,or_false,not_or,List.nodup_nil,and_true,not_false_eq_true];omega
                    refine tn ?_
                    refine W_rowCCt 182 q out.length (p + 4) (els:=[[.sc (.int .i64 0),.sc (.int .i64 0),.sc (.int .i64 0),str [],str [],nilV,.sc (.int .i64 0),.sc (.int .i64 0)]]) rfl (get_set (by (repeat first|assumption|exact get_last|(refine get_last2 ?_;focus (simp;done))|apply get_set|apply get_app|(apply get_ne;focus omega)|(apply get_ne;focus (simp only [List.length_set,List.length_append,List.length_cons,List.length_nil];omega)));done)) (hixc _) (get_ne hq3 (get_set hfr)) (by simp) (by simp) hq3 ?_
                    intro sp' cap' e1 e2 e3
                    have hof : ((0 : Nat) : Int).toNat * 8 + 8 ≤ (([[.sc (.int .i64 0),.sc (.int .i64 0),.sc (.int .i64 0),str [],str [],nilV,.sc (.int .i64 0),.sc (.int .i64 0)]]).flatten ++ sp').length:=by
                      show 0 * 8 + 8 ≤ _
                      simp only [List.flatten_append,List.flatten_cons,List.flatten_nil,List.append_nil,List.length_append,hccf,List.length_cons,List.length_nil,hc0,ndCs];omega
                    have hst2 : (([[.sc (.int .i64 0),.sc (.int .i64 0),.sc (.int .i64 0),str [],str [],nilV,.sc (.int .i64 0),.sc (.int .i64 0)]]).flatten ++ sp').take (((0 : Nat) : Int).toNat * 8) ++ [i64 2,i64 0,i64 0,str [],str (c :: r),.sl none 8 [],i64 (tl : Int),i64 (tc : Int)] ++ (([[.sc (.int .i64 0),.sc (.int .i64 0),.sc (.int .i64 0),str [],str [],nilV,.sc (.int .i64 0),.sc (.int .i64 0)]]).flatten ++ sp').drop (((0 : Nat) : Int).toNat * 8 + 8) = (ndCs (cur ++ [.mk 2 0 0 [] (c :: r) [] (tl : Int) (tc : Int)])).flatten ++ sp':=by
                      show (([[.sc (.int .i64 0),.sc (.int .i64 0),.sc (.int .i64 0),str [],str [],nilV,.sc (.int .i64 0),.sc (.int .i64 0)]]).flatten ++ sp').take (0 * 8) ++ [i64 2,i64 0,i64 0,str [],str (c :: r),.sl none 8 [],i64 (tl : Int),i64 (tc : Int)] ++ (([[.sc (.int .i64 0),.sc (.int .i64 0),.sc (.int .i64 0),str [],str [],nilV,.sc (.int .i64 0),.sc (.int .i64 0)]]).flatten ++ sp').drop (0 * 8 + 8) = _
                      rw [hnx]
                      rw [hnil];simp
                    repeat' first
 | (refine idStL ?_;refine pS (S_storee (r:=(p + 4)) rfl rfl rfl (by (repeat first|assumption|exact get_last|(refine get_last2 ?_;focus (simp;done))|apply get_set|apply get_app|(apply get_ne;focus omega)|(apply get_ne;focus (simp only [List.length_set,List.length_append,List.length_cons,List.length_nil];omega)));done) rfl rfl hof hst2) ?_)
 | (apply p1 (hd:=rfl);case hop=>first|(apply D_ixC;rfl;rfl;all_goals (first|omega|(simp only [List.length_append,List.length_cons,List.length_nil];omega))))
 | refine W_region ?_
 | refine WL_nil ?_
 | (refine bn ?_)
                    refine ⟨rfl,⟨.busy,none,Eq.trans (b:=some (X .busy none)) (by (repeat first|assumption|exact get_last|(refine get_last2 ?_;focus (simp;done))|apply get_set|apply get_app|(apply get_ne;focus omega)|(apply get_ne;focus (simp only [List.length_set,List.length_append,List.length_cons,List.length_nil];omega)));done) (congrArg some (hX _ _))⟩,(fun _=>⟨out,cur ++ [.mk 2 0 0 [] (c :: r) [] (tl : Int) (tc : Int)],(many + 1),.inl ?_,hok',hm'⟩),(fun e=>nomatch e)⟩
                    rw [← hX .ready none]
                    refine PInv.turn (X:=X .busy none) ?_ _
                    have hlx : (ndCs (cur ++ [.mk 2 0 0 [] (c :: r) [] (tl : Int) (tc : Int)])).length = ([[.sc (.int .i64 0),.sc (.int .i64 0),.sc (.int .i64 0),str [],str [],nilV,.sc (.int .i64 0),.sc (.int .i64 0)]]).length:=(congrArg List.length hnx).trans (by first|rfl|(rw [hnil];rfl)|(simp;done))
                    refine pinv_app hK0 t1 t2 s3 s4 s5 t6 t7 t8 t9' s10 (fun i hi hq hc=>?_) (cv':=.mc (p + 4) (ndCs (cur ++ [.mk 2 0 0 [] (c :: r) [] (tl : Int) (tc : Int)])).length cap') ?_ (.inr ⟨p + 4,cap',sp',rfl,?_,e2,?_,?_⟩) (fun i hi=>.inr (by rw [mcP,List.mem_singleton] at hi;omega)) hcnt
                    · have hir : p + 4 ≠ i:=by omega
                      repeat first|rw [List.getElem?_set_ne (Ne.symm hq)]|rw [List.getElem?_set_ne hir]
                      exact List.getElem?_append_left hi
                    · refine Eq.trans (by (repeat first|assumption|exact get_last|(refine get_last2 ?_;focus (simp;done))|apply get_set|apply get_app|(apply get_ne;focus omega)|(apply get_ne;focus (simp only [List.length_set,List.length_append,List.length_cons,List.length_nil];omega)));done) ?_
                      rw [hset,hlx]
                      try rfl
                    · rw [hlx];simpa using e1
                    · exact (by (repeat first|assumption|exact get_last|(refine get_last2 ?_;focus (simp;done))|apply get_set|apply get_app|(apply get_ne;focus omega)|(apply get_ne;focus (simp only [List.length_set,List.length_append,List.length_cons,List.length_nil];omega)));done)
                    · rw [hnx]
                      first|exact e3|(rw [← e3];simp [hnil])
                · have hrK:=(List.getElem?_eq_some_iff.1 v4).1
                  obtain ⟨hrb,hrq,hrv⟩:=s10.d3 _ (List.mem_append.2 (.inr (.head _))) rv (by rw [mcP];exact .head _)
                  have hr5 : rv ≠ 5:=fun e=>hrb (by rw [e];decide)
                  have hr9 : rv ≠ 9:=fun e=>hrb (by rw [e];decide)
                  have hrn:=ne_ty v4 hN0
                  by_cases hroom : (ndCs cur).length + 1 ≤ cap
                  · have hsp8 : 8 ≤ sp.length:=by
                      simp only [List.length_append,hccf] at v5;omega
                    have hys : ((ndCs cur).flatten ++ sp).take ((ndCs cur).length * 8) ++ [[i64 2,i64 0,i64 0,str [],str (c :: r),.sl none 8 [],i64 (tl : Int),i64 (tc : Int)]].flatten ++ ((ndCs cur).flatten ++ sp).drop ((ndCs cur).length * 8 + [[i64 2,i64 0,i64 0,str [],str (c :: r),.sl none 8 [],i64 (tl : Int),i64 (tc : Int)]].flatten.length) = (ndCs (cur ++ [.mk 2 0 0 [] (c :: r) [] (tl : Int) (tc : Int)])).flatten ++ sp.drop 8:=by
                      rw [hnx,List.take_left' hccf,← List.drop_drop,List.drop_left' hccf,List.flatten_append];rfl
                    have hysz : ((ndCs cur).flatten ++ sp).take ((ndCs cur).length * 8) ++ [[.sc (.int .i64 0),.sc (.int .i64 0),.sc (.int .i64 0),str [],str [],nilV,.sc (.int .i64 0),.sc (.int .i64 0)]].flatten ++ ((ndCs cur).flatten ++ sp).drop ((ndCs cur).length * 8 + [[.sc (.int .i64 0),.sc (.int .i64 0),.sc (.int .i64 0),str [],str [],nilV,.sc (.int .i64 0),.sc (.int .i64 0)]].flatten.length) = (ndCs cur ++ [[.sc (.int .i64 0),.sc (.int .i64 0),.sc (.int .i64 0),str [],str [],nilV,.sc (.int .i64 0),.sc (.int .i64 0)]]).flatten ++ sp.drop 8:=by
                      rw [List.take_left' hccf,← List.drop_drop,List.drop_left' hccf,List.flatten_append];rfl
                    cases b with
                    | false =>
                      have hq3 : q ≠ p + 4:=by omega
                      have hr3 : rv ≠ p + 4:=by omega
                      repeat' first
 | (refine idC ?_;refine c0 rfl ?_)
 | (refine tn ?_)
                      all_goals first
                        | (exfalso;rename_i hh;exact Bool.noConfusion hh)
                        | skip
                      refine W_resv 1 ?_
                      refine W_hq (h':=K ++ [AObj.cells [.sc (.bool false)]] ++ [.free]) rfl ?_
                      have hfr : (K ++ [AObj.cells [.sc (.bool false)]] ++ [AObj.free])[p + 4]? = some .free:=by
                        have:=get_last (h:=K ++ [AObj.cells [.sc (.bool false)]]) (x:=AObj.free)
                        rw [hKl0] at this;exact this
                      refine W_draw0 rfl ?_
                      repeat' first
 | (refine idLdD ?_;refine dL q (fun _ hs=>D_loadB1 rfl (hs.trans (get_app t2)) (hix1 _)) rfl ?_)
 | (refine idLdD ?_;refine dL (p + 1) (fun _ hs=>D_loadBAe (c:=[i64 2,i64 0,i64 0,str [],str (c :: r),.sl none 8 [],i64 (tl : Int),i64 (tc : Int)]) rfl (hs.trans (get_app hN0)) (by simp) rfl) rfl ?_)
 | (refine idApD rfl ?_;refine dV (S_appCe (els':=[[i64 2,i64 0,i64 0,str [],str (c :: r),.sl none 8 [],i64 (tl : Int),i64 (tc : Int)]]) rfl rfl (get_app v4) v5 (by simp) (by simp only [List.length_cons,List.length_nil];omega) hys) (bltL (get_app v4)) rfl ?_)
 | (refine idStD ?_;refine dS (S_storee (r:=q) rfl rfl rfl (by (repeat first|assumption|exact get_last|(refine get_last2 ?_;focus (simp;done))|apply get_set|apply get_app|(apply get_ne;focus omega)|(apply get_ne;focus (simp only [List.length_set,List.length_append,List.length_cons,List.length_nil];omega)));done) rfl rfl hsof (hsto _ _)) (bltL (by (repeat first|assumption|exact get_last|(refine get_last2 ?_;focus (simp;done))|apply get_set|apply get_app|(apply get_ne;focus omega)|(apply get_ne;focus (simp only [List.length_set,List.length_append,List.length_cons,List.length_nil];omega)));done)) ?_)
 | (apply d1 (hd:=rfl);case hop=>first|(apply D_move;rfl)|(apply D_ixC;rfl;rfl;all_goals omega)|(apply D_lit;rfl;rfl;rfl;rfl))
 | (refine idDn ?_;first|refine dL _ (fun hp' hs=>D_loadB1 rfl (hs.trans (by (repeat first|assumption|exact get_last|(refine get_last2 ?_;focus (simp;done))|apply get_set|apply get_app|(apply get_ne;focus omega)|(apply get_ne;focus (simp only [List.length_set,List.length_append,List.length_cons,List.length_nil];omega)));done)) (by rfl)) rfl ?_)
                      refine WD_nilR [5,q,p + 1,rv,p + 4] [([0],none),([],none),([0],none),([],none),([],none),([1],none),([2],none),([],none),([3],some 3),([],none),([1],some 1)] ?_ rfl rfl (by decide +kernel) ?_
                      · simp only [List.nodup_cons,List.mem_cons,List.not_mem_nil,or_false,not_or,List.nodup_nil,and_true,not_false_eq_true];omega
                      repeat' first
 | (refine bn ?_)
                      refine ⟨rfl,⟨.busy,none,Eq.trans (b:=some (X .busy none)) (by (repeat first|assumption|exact get_last|(refine get_last2 ?_;focus (simp;done))|apply get_set|apply get_app|(apply get_ne;focus omega)|(apply get_ne;focus (simp only [List.length_set,List.length_append,List.length_cons,List.length_nil];omega)));done) (congrArg some (hX _ _))⟩,(fun _=>⟨out,cur ++ [.mk 2 0 0 [] (c :: r) [] (tl : Int) (tc : Int)],(many + 1),.inl ?_,hok',hm'⟩),(fun e=>nomatch e)⟩
                      rw [← hX .ready none]
                      refine PInv.turn (X:=X .busy none) ?_ _
                      refine pinv_app hK0 t1 t2 s3 s4 s5 t6 t7 t8 t9' s10 (fun i hi hq hc=>?_) (cv':=.mc rv ((ndCs cur).length + 1) cap) (by (repeat first|assumption|exact get_last|(refine get_last2 ?_;focus (simp;done))|apply get_set|apply get_app|(apply get_ne;focus omega)|(apply get_ne;focus (simp only [List.length_set,List.length_append,List.length_cons,List.length_nil];omega)));done) (.inr ⟨rv,cap,sp.drop 8,?_,?_,v3,?_,?_⟩) (fun i hi=>.inl hi) hcnt
                      · have hir : rv ≠ i:=fun e=>hc (by rw [mcP,e];exact .head _)
                        repeat first|rw [List.getElem?_set_ne (Ne.symm hq)]|rw [List.getElem?_set_ne hir]
                        exact List.getElem?_append_left hi
                      · rw [hnx,List.length_append];rfl
                      · rw [hnx,List.length_append];exact hroom
                      · exact (by (repeat first|assumption|exact get_last|(refine get_last2 ?_;focus (simp;done))|apply get_set|apply get_app|(apply get_ne;focus omega)|(apply get_ne;focus (simp only [List.length_set,List.length_append,List.length_cons,List.length_nil];omega)));done)
                      · rw [hnx,List.flatten_append]
                        simp only [List.length_append,List.flatten_cons,List.flatten_nil,List.append_nil,List.length_drop,hccf,List.length_cons,List.length_nil] at v5 ⊢
                        omega
                    | true =>
                      have hq3 : q ≠ p + 4:=by omega
                      have hr3 : rv ≠ p + 4:=by omega
                      repeat' first
 | refine W_seq ?_
 | (refine idC ?_;refine cs rfl (fun _=>?_) (fun _=>?_))
 | (refine tn ?_)
                      all_goals first
                        | (exfalso;rename_i hh;exact Bool.noConfusion hh)
                        | skip
                      refine W_resv 1 ?_
                      refine W_hq (h':=K ++ [AObj.cells [.sc (.bool true)]] ++ [.free]) rfl ?_
                      have hfr : (K ++ [AObj.cells [.sc (.bool true)]] ++ [AObj.free])[p + 4]? = some .free:=by
                        have:=get_last (h:=K ++ [AObj.cells [.sc (.bool true)]]) (x:=AObj.free)
                        rw [hKl0] at this;exact this
                      refine W_draw0 rfl ?_
                      repeat' first
 | (refine idLdD ?_;refine dL q (fun _ hs=>D_loadB1 rfl (hs.trans (get_app t2)) (hix1 _)) rfl ?_)
 | (refine idLdD ?_;refine dL (p + 1) (fun _ hs=>D_loadBAe (c:=[i64 2,i64 0,i64 0,str [],str (c :: r),.sl none 8 [],i64 (tl : Int),i64 (tc : Int)]) rfl (hs.trans (get_app hN0)) (by simp) rfl) rfl ?_)
 | (refine idApD rfl ?_;refine dV (S_appCe (els':=[[.sc (.int .i64 0),.sc (.int .i64 0),.sc (.int .i64 0),str [],str [],nilV,.sc (.int .i64 0),.sc (.int .i64 0)]]) rfl rfl (get_app v4) v5 (by simp) (by simp only [List.length_cons,List.length_nil];omega) hysz) (bltL (get_app v4)) rfl ?_)
 | (refine idStD ?_;refine dS (S_storee (r:=q) rfl rfl rfl (by (repeat first|assumption|exact get_last|(refine get_last2 ?_;focus (simp;done))|apply get_set|apply get_app|(apply get_ne;focus omega)|(apply get_ne;focus (simp only [List.length_set,List.length_append,List.length_cons,List.length_nil];omega)));done) rfl rfl hsof (hsto _ _)) (bltL (by (repeat first|assumption|exact get_last|(refine get_last2 ?_;focus (simp;done))|apply get_set|apply get_app|(apply get_ne;focus omega)|(apply get_ne;focus (simp only [List.length_set,List.length_append,List.length_cons,List.length_nil];omega)));done)) ?_)
 | (apply d1 (hd:=rfl);case hop=>first|(apply D_move;rfl)|(apply D_lenC;rfl)|(apply D_ixC;rfl;rfl;all_goals omega)|exact D_litA rfl rfl)
 | (refine idDn ?_;first|refine dL _ (fun hp' hs=>D_loadB1 rfl (hs.trans (by (repeat first|assumption|exact get_last|(refine get_last2 ?_;focus (simp;done))|apply get_set|apply get_app|(apply get_ne;focus omega)|(apply get_ne;focus (simp only [List.length_set,List.length_append,List.length_cons,List.length_nil];omega)));done)) (by rfl)) rfl ?_)
                      refine WD_nilR [5,q,p + 1,rv,p + 4] [([0],none),([],none),([],none),([1],none),([2],none),([],none),([],none),([3],some 3),([],none),([1],some 1)] ?_ rfl rfl (by decide +kernel) ?_
                      · simp only [List.nodup_cons,List.mem_cons,List.not_mem_nil,or_false,not_or,List.nodup_nil,and_true,not_false_eq_true];omega
                      refine tn ?_
                      have hof : (((ndCs cur).length : Nat) : Int).toNat * 8 + 8 ≤ ((ndCs cur ++ [[.sc (.int .i64 0),.sc (.int .i64 0),.sc (.int .i64 0),str [],str [],nilV,.sc (.int .i64 0),.sc (.int .i64 0)]]).flatten ++ (sp.drop 8)).length:=by
                        show (ndCs cur).length * 8 + 8 ≤ _
                        simp only [List.flatten_append,List.flatten_cons,List.flatten_nil,List.append_nil,List.length_append,hccf,List.length_cons,List.length_nil];omega
                      have hst2 : ((ndCs cur ++ [[.sc (.int .i64 0),.sc (.int .i64 0),.sc (.int .i64 0),str [],str [],nilV,.sc (.int .i64 0),.sc (.int .i64 0)]]).flatten ++ (sp.drop 8)).take ((((ndCs cur).length : Nat) : Int).toNat * 8) ++ [i64 2,i64 0,i64 0,str [],str (c :: r),.sl none 8 [],i64 (tl : Int),i64 (tc : Int)] ++ ((ndCs cur ++ [[.sc (.int .i64 0),.sc (.int .i64 0),.sc (.int .i64 0),str [],str [],nilV,.sc (.int .i64 0),.sc (.int .i64 0)]]).flatten ++ (sp.drop 8)).drop ((((ndCs cur).length : Nat) : Int).toNat * 8 + 8) = (ndCs (cur ++ [.mk 2 0 0 [] (c :: r) [] (tl : Int) (tc : Int)])).flatten ++ (sp.drop 8):=by
                        show ((ndCs cur ++ [[.sc (.int .i64 0),.sc (.int .i64 0),.sc (.int .i64 0),str [],str [],nilV,.sc (.int .i64 0),.sc (.int .i64 0)]]).flatten ++ (sp.drop 8)).take ((ndCs cur).length * 8) ++ [i64 2,i64 0,i64 0,str [],str (c :: r),.sl none 8 [],i64 (tl : Int),i64 (tc : Int)] ++ ((ndCs cur ++ [[.sc (.int .i64 0),.sc (.int .i64 0),.sc (.int .i64 0),str [],str [],nilV,.sc (.int .i64 0),.sc (.int .i64 0)]]).flatten ++ (sp.drop 8)).drop ((ndCs cur).length * 8 + 8) = _
                        rw [hnx]
                        rw [List.flatten_append,List.append_assoc (ndCs cur).flatten,List.take_left' hccf,← List.drop_drop,List.drop_left' hccf,List.flatten_append];simp
                      repeat' first
 | (refine idStL ?_;refine pS (S_storee (r:=rv) rfl rfl rfl (by (repeat first|assumption|exact get_last|(refine get_last2 ?_;focus (simp;done))|apply get_set|apply get_app|(apply get_ne;focus omega)|(apply get_ne;focus (simp only [List.length_set,List.length_append,List.length_cons,List.length_nil];omega)));done) rfl rfl hof hst2) ?_)
 | (apply p1 (hd:=rfl);case hop=>first|(apply D_ixC;rfl;rfl;all_goals (first|omega|(simp only [List.length_append,List.length_cons,List.length_nil];omega))))
 | refine W_region ?_
 | refine WL_nil ?_
 | (refine bn ?_)
                      refine ⟨rfl,⟨.busy,none,Eq.trans (b:=some (X .busy none)) (by (repeat first|assumption|exact get_last|(refine get_last2 ?_;focus (simp;done))|apply get_set|apply get_app|(apply get_ne;focus omega)|(apply get_ne;focus (simp only [List.length_set,List.length_append,List.length_cons,List.length_nil];omega)));done) (congrArg some (hX _ _))⟩,(fun _=>⟨out,cur ++ [.mk 2 0 0 [] (c :: r) [] (tl : Int) (tc : Int)],(many + 1),.inl ?_,hok',hm'⟩),(fun e=>nomatch e)⟩
                      rw [← hX .ready none]
                      refine PInv.turn (X:=X .busy none) ?_ _
                      refine pinv_app hK0 t1 t2 s3 s4 s5 t6 t7 t8 t9' s10 (fun i hi hq hc=>?_) (cv':=.mc rv ((ndCs cur).length + 1) cap) (by (repeat first|assumption|exact get_last|(refine get_last2 ?_;focus (simp;done))|apply get_set|apply get_app|(apply get_ne;focus omega)|(apply get_ne;focus (simp only [List.length_set,List.length_append,List.length_cons,List.length_nil];omega)));done) (.inr ⟨rv,cap,sp.drop 8,?_,?_,v3,?_,?_⟩) (fun i hi=>.inl hi) hcnt
                      · have hir : rv ≠ i:=fun e=>hc (by rw [mcP,e];exact .head _)
                        repeat first|rw [List.getElem?_set_ne (Ne.symm hq)]|rw [List.getElem?_set_ne hir]
                        exact List.getElem?_append_left hi
                      · rw [hnx,List.length_append];rfl
                      · rw [hnx,List.length_append];exact hroom
                      · exact (by (repeat first|assumption|exact get_last|(refine get_last2 ?_;focus (simp;done))|apply get_set|apply get_app|(apply get_ne;focus omega)|(apply get_ne;focus (simp only [List.length_set,List.length_append,List.length_cons,List.length_nil];omega)));done)
                      · rw [hnx,List.flatten_append]
                        simp only [List.length_append,List.flatten_cons,List.flatten_nil,List.append_nil,List.length_drop,hccf,List.length_cons,List.length_nil] at v5 ⊢
                        omega
                  · cases b with
                    | false =>
                      have hq3 : q ≠ p + 4:=by omega
                      have hr3 : rv ≠ p + 4:=by omega
                      repeat' first
 | (refine idC ?_;refine c0 rfl ?_)
 | (refine tn ?_)
                      all_goals first
                        | (exfalso;rename_i hh;exact Bool.noConfusion hh)
                        | skip
                      refine W_resv 1 ?_
                      refine W_hq (h':=K ++ [AObj.cells [.sc (.bool false)]] ++ [.free]) rfl ?_
                      have hfr : (K ++ [AObj.cells [.sc (.bool false)]] ++ [AObj.free])[p + 4]? = some .free:=by
                        have:=get_last (h:=K ++ [AObj.cells [.sc (.bool false)]]) (x:=AObj.free)
                        rw [hKl0] at this;exact this
                      refine W_draw0 rfl ?_
                      repeat' first
 | (refine idLdD ?_;refine dL q (fun _ hs=>D_loadB1 rfl (hs.trans (get_app t2)) (hix1 _)) rfl ?_)
 | (refine idLdD ?_;refine dL (p + 1) (fun _ hs=>D_loadBAe (c:=[i64 2,i64 0,i64 0,str [],str (c :: r),.sl none 8 [],i64 (tl : Int),i64 (tc : Int)]) rfl (hs.trans (get_app hN0)) (by simp) rfl) rfl ?_)
 | (refine idApD rfl ?_;refine dV2 (S_appN1 (els:=ndCs cur) (els':=[[i64 2,i64 0,i64 0,str [],str (c :: r),.sl none 8 [],i64 (tl : Int),i64 (tc : Int)]]) (sp:=sp) (p + 4) rfl rfl hfr (get_app v4) rfl (by simp only [List.length_cons,List.length_nil];omega) (by simp) rfl (ndCs_w _) hccf rfl (by simp only [List.length_cons,List.length_nil];omega) (by simp only [List.length_cons,List.length_nil];omega)) (bltL hfr) rfl ?_)
 | (refine idStD ?_;refine dS (S_storee (r:=q) rfl rfl rfl (by (repeat first|assumption|exact get_last|(refine get_last2 ?_;focus (simp;done))|apply get_set|apply get_app|(apply get_ne;focus omega)|(apply get_ne;focus (simp only [List.length_set,List.length_append,List.length_cons,List.length_nil];omega)));done) rfl rfl hsof (hsto _ _)) (bltL (by (repeat first|assumption|exact get_last|(refine get_last2 ?_;focus (simp;done))|apply get_set|apply get_app|(apply get_ne;focus omega)|(apply get_ne;focus (simp only [List.length_set,List.length_append,List.length_cons,List.length_nil];omega)));done)) ?_)
 | (apply d1 (hd:=rfl);case hop=>first|(apply D_move;rfl)|(apply D_ixC;rfl;rfl;all_goals omega)|(apply D_lit;rfl;rfl;rfl;rfl))
 | (refine idDn ?_;first|refine dL _ (fun hp' hs=>D_loadB1 rfl (hs.trans (by (repeat first|assumption|exact get_last|(refine get_last2 ?_;focus (simp;done))|apply get_set|apply get_app|(apply get_ne;focus omega)|(apply get_ne;focus (simp only [List.length_set,List.length_append,List.length_cons,List.length_nil];omega)));done)) (by rfl)) rfl ?_)
                      refine WD_nilR [5,q,p + 1,rv,p + 4] [([0],none),([],none),([0],none),([],none),([],none),([1],none),([2],none),([],none),([4,3],some 4),([],none),([1],some 1)] ?_ rfl rfl (by decide +kernel) ?_
                      · simp only [List.nodup_cons,List.mem_cons,List.not_mem_nil,or_false,not_or,List.nodup_nil,and_true,not_false_eq_true];omega
                      repeat' first
 | (refine bn ?_)
                      refine ⟨rfl,⟨.busy,none,Eq.trans (b:=some (X .busy none)) (by (repeat first|assumption|exact get_last|(refine get_last2 ?_;focus (simp;done))|apply get_set|apply get_app|(apply get_ne;focus omega)|(apply get_ne;focus (simp only [List.length_set,List.length_append,List.length_cons,List.length_nil];omega)));done) (congrArg some (hX _ _))⟩,(fun _=>⟨out,cur ++ [.mk 2 0 0 [] (c :: r) [] (tl : Int) (tc : Int)],(many + 1),.inr ?_,hok',hm'⟩),(fun e=>nomatch e)⟩
                      rw [← hX .ready none]
                      refine PRow.turn (X:=X .busy none) ?_ _
                      have k0:=hK0.a0
                      have k1:=hK0.a1
                      have k2:=hK0.a2
                      have k3:=hK0.a3
                      have k8:=hK0.a8
                      have hq0 : q ≠ 0:=(nd_base s10 (i:=0) (by decide)).1
                      have hq1 : q ≠ 1:=(nd_base s10 (i:=1) (by decide)).1
                      have hq2 : q ≠ 2:=(nd_base s10 (i:=2) (by decide)).1
                      have hqq3 : q ≠ 3:=(nd_base s10 (i:=3) (by decide)).1
                      have hq8 : q ≠ 8:=(nd_base s10 (i:=8) (by decide)).1
                      refine ⟨(by (repeat first|assumption|exact get_last|(refine get_last2 ?_;focus (simp;done))|apply get_set|apply get_app|(apply get_ne;focus omega)|(apply get_ne;focus (simp only [List.length_set,List.length_append,List.length_cons,List.length_nil];omega)));done),(by (repeat first|assumption|exact get_last|(refine get_last2 ?_;focus (simp;done))|apply get_set|apply get_app|(apply get_ne;focus omega)|(apply get_ne;focus (simp only [List.length_set,List.length_append,List.length_cons,List.length_nil];omega)));done),(by (repeat first|assumption|exact get_last|(refine get_last2 ?_;focus (simp;done))|apply get_set|apply get_app|(apply get_ne;focus omega)|(apply get_ne;focus (simp only [List.length_set,List.length_append,List.length_cons,List.length_nil];omega)));done),(by (repeat first|assumption|exact get_last|(refine get_last2 ?_;focus (simp;done))|apply get_set|apply get_app|(apply get_ne;focus omega)|(apply get_ne;focus (simp only [List.length_set,List.length_append,List.length_cons,List.length_nil];omega)));done),(by (repeat first|assumption|exact get_last|(refine get_last2 ?_;focus (simp;done))|apply get_set|apply get_app|(apply get_ne;focus omega)|(apply get_ne;focus (simp only [List.length_set,List.length_append,List.length_cons,List.length_nil];omega)));done),(by (repeat first|assumption|exact get_last|(refine get_last2 ?_;focus (simp;done))|apply get_set|apply get_app|(apply get_ne;focus omega)|(apply get_ne;focus (simp only [List.length_set,List.length_append,List.length_cons,List.length_nil];omega)));done),q,out.length,p + 4,_,_,ndCs cur ++ [[i64 2,i64 0,i64 0,str [],str (c :: r),.sl none 8 [],i64 (tl : Int),i64 (tc : Int)]],get_set (by (repeat first|assumption|exact get_last|(refine get_last2 ?_;focus (simp;done))|apply get_set|apply get_app|(apply get_ne;focus omega)|(apply get_ne;focus (simp only [List.length_set,List.length_append,List.length_cons,List.length_nil];omega)));done),hixc _,get_ne hq3 (get_set hfr),?_,?_,hq3,by omega,hq9,?_⟩
                      · simp
                      · simp
                      intro sp' cap' e1 e2 e3
                      have hlx : (ndCs (cur ++ [.mk 2 0 0 [] (c :: r) [] (tl : Int) (tc : Int)])).length = (ndCs cur ++ [[i64 2,i64 0,i64 0,str [],str (c :: r),.sl none 8 [],i64 (tl : Int),i64 (tc : Int)]]).length:=(congrArg List.length hnx).trans (by first|rfl|(rw [hnil];rfl)|(simp;done))
                      refine pinv_app hK0 t1 t2 s3 s4 s5 t6 t7 t8 t9' s10 (fun i hi hq hc=>?_) (cv':=.mc (p + 4) (ndCs (cur ++ [.mk 2 0 0 [] (c :: r) [] (tl : Int) (tc : Int)])).length cap') ?_ (.inr ⟨p + 4,cap',sp',rfl,?_,e2,?_,?_⟩) (fun i hi=>.inr (by rw [mcP,List.mem_singleton] at hi;omega)) hcnt
                      · have hir : p + 4 ≠ i:=by omega
                        repeat first|rw [List.getElem?_set_ne (Ne.symm hq)]|rw [List.getElem?_set_ne hir]
                        exact List.getElem?_append_left hi
                      · refine Eq.trans (by (repeat first|assumption|exact get_last|(refine get_last2 ?_;focus (simp;done))|apply get_set|apply get_app|(apply get_ne;focus omega)|(apply get_ne;focus (simp only [List.length_set,List.length_append,List.length_cons,List.length_nil];omega)));done) ?_
                        rw [hset,hlx,List.length_append]
                        try rfl
                      · rw [hlx];simpa using e1
                      · refine Eq.trans (by (repeat first|assumption|exact get_last|(refine get_last2 ?_;focus (simp;done))|apply get_set|apply get_app|(apply get_ne;focus omega)|(apply get_ne;focus (simp only [List.length_set,List.length_append,List.length_cons,List.length_nil];omega)));done) ?_
                        rw [hnx]
                      · rw [hnx]
                        first|exact e3|(rw [← e3];simp)
                    | true =>
                      have hq3 : q ≠ p + 4:=by omega
                      have hr3 : rv ≠ p + 4:=by omega
                      repeat' first
 | refine W_seq ?_
 | (refine idC ?_;refine cs rfl (fun _=>?_) (fun _=>?_))
 | (refine tn ?_)
                      all_goals first
                        | (exfalso;rename_i hh;exact Bool.noConfusion hh)
                        | skip
                      refine W_resv 1 ?_
                      refine W_hq (h':=K ++ [AObj.cells [.sc (.bool true)]] ++ [.free]) rfl ?_
                      have hfr : (K ++ [AObj.cells [.sc (.bool true)]] ++ [AObj.free])[p + 4]? = some .free:=by
                        have:=get_last (h:=K ++ [AObj.cells [.sc (.bool true)]]) (x:=AObj.free)
                        rw [hKl0] at this;exact this
                      refine W_draw0 rfl ?_
                      repeat' first
 | (refine idLdD ?_;refine dL q (fun _ hs=>D_loadB1 rfl (hs.trans (get_app t2)) (hix1 _)) rfl ?_)
 | (refine idLdD ?_;refine dL (p + 1) (fun _ hs=>D_loadBAe (c:=[i64 2,i64 0,i64 0,str [],str (c :: r),.sl none 8 [],i64 (tl : Int),i64 (tc : Int)]) rfl (hs.trans (get_app hN0)) (by simp) rfl) rfl ?_)
 | (refine idApD rfl ?_;refine dV2 (S_appN1 (els:=ndCs cur) (els':=[[.sc (.int .i64 0),.sc (.int .i64 0),.sc (.int .i64 0),str [],str [],nilV,.sc (.int .i64 0),.sc (.int .i64 0)]]) (sp:=sp) (p + 4) rfl rfl hfr (get_app v4) rfl (by simp only [List.length_cons,List.length_nil];omega) (by simp) rfl (ndCs_w _) hccf rfl (by simp only [List.length_cons,List.length_nil];omega) (by simp only [List.length_cons,List.length_nil];omega)) (bltL hfr) rfl ?_)
 | (refine idStD ?_;refine dS (S_storee (r:=q) rfl rfl rfl (by (repeat first|assumption|exact get_last|(refine get_last2 ?_;focus (simp;done))|apply get_set|apply get_app|(apply get_ne;focus omega)|(apply get_ne;focus (simp only [List.length_set,List.length_append,List.length_cons,List.length_nil];omega)));done) rfl rfl hsof (hsto _ _)) (bltL (by (repeat first|assumption|exact get_last|(refine get_last2 ?_;focus (simp;done))|apply get_set|apply get_app|(apply get_ne;focus omega)|(apply get_ne;focus (simp only [List.length_set,List.length_append,List.length_cons,List.length_nil];omega)));done)) ?_)
 | (apply d1 (hd:=rfl);case hop=>first|(apply D_move;rfl)|(apply D_lenC;rfl)|(apply D_ixC;rfl;rfl;all_goals omega)|exact D_litA rfl rfl)
 | (refine idDn ?_;first|refine dL _ (fun hp' hs=>D_loadB1 rfl (hs.trans (by (repeat first|assumption|exact get_last|(refine get_last2 ?_;focus (simp;done))|apply get_set|apply get_app|(apply get_ne;focus omega)|(apply get_ne;focus (simp only [List.length_set,List.length_append,List.length_cons,List.length_nil];omega)));done)) (by rfl)) rfl ?_)
                      refine WD_nilR [5,q,p + 1,rv,p + 4] [([0],none),([],none),([],none),([1],none),([2],none),([],none),([],none),([4,3],some 4),([],none),([1],some 1)] ?_ rfl rfl (by decide +kernel) ?_
                      · simp only [List.nodup_cons,List.mem_cons,List.not_mem_nil,or_false,not_or,List.nodup_nil,and_true,not_false_eq_true];omega
                      refine tn ?_
                      refine W_rowCCt 182 q out.length (p + 4) (els:=ndCs cur ++ [[.sc (.int .i64 0),.sc (.int .i64 0),.sc (.int .i64 0),str [],str [],nilV,.sc (.int .i64 0),.sc (.int .i64 0)]]) rfl (get_set (by (repeat first|assumption|exact get_last|(refine get_last2 ?_;focus (simp;done))|apply get_set|apply get_app|(apply get_ne;focus omega)|(apply get_ne;focus (simp only [List.length_set,List.length_append,List.length_cons,List.length_nil];omega)));done)) (hixc _) (get_ne hq3 (get_set hfr)) (by simp) (by simp) hq3 ?_
                      intro sp' cap' e1 e2 e3
                      have hof : (((ndCs cur).length : Nat) : Int).toNat * 8 + 8 ≤ ((ndCs cur ++ [[.sc (.int .i64 0),.sc (.int .i64 0),.sc (.int .i64 0),str [],str [],nilV,.sc (.int .i64 0),.sc (.int .i64 0)]]).flatten ++ sp').length:=by
                        show (ndCs cur).length * 8 + 8 ≤ _
                        simp only [List.flatten_append,List.flatten_cons,List.flatten_nil,List.append_nil,List.length_append,hccf,List.length_cons,List.length_nil];omega
                      have hst2 : ((ndCs cur ++ [[.sc (.int .i64 0),.sc (.int .i64 0),.sc (.int .i64 0),str [],str [],nilV,.sc (.int .i64 0),.sc (.int .i64 0)]]).flatten ++ sp').take ((((ndCs cur).length : Nat) : Int).toNat * 8) ++ [i64 2,i64 0,i64 0,str [],str (c :: r),.sl none 8 [],i64 (tl : Int),i64 (tc : Int)] ++ ((ndCs cur ++ [[.sc (.int .i64 0),.sc (.int .i64 0),.sc (.int .i64 0),str [],str [],nilV,.sc (.int .i64 0),.sc (.int .i64 0)]]).flatten ++ sp').drop ((((ndCs cur).length : Nat) : Int).toNat * 8 + 8) = (ndCs (cur ++ [.mk 2 0 0 [] (c :: r) [] (tl : Int) (tc : Int)])).flatten ++ sp':=by
                        show ((ndCs cur ++ [[.sc (.int .i64 0),.sc (.int .i64 0),.sc (.int .i64 0),str [],str [],nilV,.sc (.int .i64 0),.sc (.int .i64 0)]]).flatten ++ sp').take ((ndCs cur).length * 8) ++ [i64 2,i64 0,i64 0,str [],str (c :: r),.sl none 8 [],i64 (tl : Int),i64 (tc : Int)] ++ ((ndCs cur ++ [[.sc (.int .i64 0),.sc (.int .i64 0),.sc (.int .i64 0),str [],str [],nilV,.sc (.int .i64 0),.sc (.int .i64 0)]]).flatten ++ sp').drop ((ndCs cur).length * 8 + 8) = _
                        rw [hnx]
                        rw [List.flatten_append,List.append_assoc (ndCs cur).flatten,List.take_left' hccf,← List.drop_drop,List.drop_left' hccf,List.flatten_append];simp
                      repeat' first
 | (refine idStL ?_;refine pS (S_storee (r:=(p + 4)) rfl rfl rfl (by (repeat first|assumption|exact get_last|(refine get_last2 ?_;focus (simp;done))|apply get_set|apply get_app|(apply get_ne;focus omega)|(apply get_ne;focus (simp only [List.length_set,List.length_append,List.length_cons,List.length_nil];omega)));done) rfl rfl hof hst2) ?_)
 | (apply p1 (hd:=rfl);case hop=>first|(apply D_ixC;rfl;rfl;all_goals (first|omega|(simp only [List.length_append,List.length_cons,List.length_nil];omega))))
 | refine W_region ?_
 | refine WL_nil ?_
 | (refine bn ?_)
                      refine ⟨rfl,⟨.busy,none,Eq.trans (b:=some (X .busy none)) (by (repeat first|assumption|exact get_last|(refine get_last2 ?_;focus (simp;done))|apply get_set|apply get_app|(apply get_ne;focus omega)|(apply get_ne;focus (simp only [List.length_set,List.length_append,List.length_cons,List.length_nil];omega)));done) (congrArg some (hX _ _))⟩,(fun _=>⟨out,cur ++ [.mk 2 0 0 [] (c :: r) [] (tl : Int) (tc : Int)],(many + 1),.inl ?_,hok',hm'⟩),(fun e=>nomatch e)⟩
                      rw [← hX .ready none]
                      refine PInv.turn (X:=X .busy none) ?_ _
                      have hlx : (ndCs (cur ++ [.mk 2 0 0 [] (c :: r) [] (tl : Int) (tc : Int)])).length = (ndCs cur ++ [[.sc (.int .i64 0),.sc (.int .i64 0),.sc (.int .i64 0),str [],str [],nilV,.sc (.int .i64 0),.sc (.int .i64 0)]]).length:=(congrArg List.length hnx).trans (by first|rfl|(rw [hnil];rfl)|(simp;done))
                      refine pinv_app hK0 t1 t2 s3 s4 s5 t6 t7 t8 t9' s10 (fun i hi hq hc=>?_) (cv':=.mc (p + 4) (ndCs (cur ++ [.mk 2 0 0 [] (c :: r) [] (tl : Int) (tc : Int)])).length cap') ?_ (.inr ⟨p + 4,cap',sp',rfl,?_,e2,?_,?_⟩) (fun i hi=>.inr (by rw [mcP,List.mem_singleton] at hi;omega)) hcnt
                      · have hir : p + 4 ≠ i:=by omega
                        repeat first|rw [List.getElem?_set_ne (Ne.symm hq)]|rw [List.getElem?_set_ne hir]
                        exact List.getElem?_append_left hi
                      · refine Eq.trans (by (repeat first|assumption|exact get_last|(refine get_last2 ?_;focus (simp;done))|apply get_set|apply get_app|(apply get_ne;focus omega)|(apply get_ne;focus (simp only [List.length_set,List.length_append,List.length_cons,List.length_nil];omega)));done) ?_
                        rw [hset,hlx,List.length_append]
                        try rfl
                      · rw [hlx];simpa using e1
                      · exact (by (repeat first|assumption|exact get_last|(refine get_last2 ?_;focus (simp;done))|apply get_set|apply get_app|(apply get_ne;focus omega)|(apply get_ne;focus (simp only [List.length_set,List.length_append,List.length_cons,List.length_nil];omega)));done)
                      · rw [hnx]
                        first|exact e3|(rw [← e3];simp)
  · rintro _ h' (⟨out,cur,many,hP,_,hm⟩|hD)
    · obtain ⟨pa0,pa1,pa2,pa3,pa8,pa9⟩ : h'[0]? = some (.cells [nilV]) ∧ h'[1]? = some (.cells [i64 0]) ∧ h'[2]? = some (.cells [i64 0]) ∧ h'[3]? = some (.cells [i64 0]) ∧ h'[8]? = some rawN ∧ h'[9]? = some (X .ready none):=by
        rcases hP with hP|hP <;> exact ⟨hP.a0,hP.a1,hP.a2,hP.a3,hP.a8,hP.a9⟩
      refine ⟨_,_,pa9.trans (congrArg some (hX _ _)),by decide,?_⟩
      simp only [mach] at hm
      subst hm
      have f8 : (h'.set 9 .dead)[8]? = some rawN:=get_ne (by decide) pa8
      have f0 : (h'.set 9 .dead)[0]? = _:=get_ne (by decide) pa0
      have f1 : (h'.set 9 .dead)[1]? = _:=get_ne (by decide) pa1
      have f2 : (h'.set 9 .dead)[2]? = _:=get_ne (by decide) pa2
      have f3 : (h'.set 9 .dead)[3]? = _:=get_ne (by decide) pa3
      repeat' first
 | refine W_seq ?_
 | refine W_region ?_
 | refine WL_nil ?_
 | refine tn ?_
 | refine bn ?_
 | refine W_ret ?_
 | (refine idS ?_;first|refine pS (S_store rfl rfl rfl (by (repeat first|assumption|exact get_last|(refine get_last2 ?_;focus (simp;done))|apply get_set|apply get_app|(apply get_ne;focus omega)|(apply get_ne;focus (simp only [List.length_set,List.length_append,List.length_cons,List.length_nil];omega)));done) (by rfl) (by rfl) (by rfl)) ?_)
      rw [resV_eq]
      apply rL4 rfl
      · exact ⟨(by (repeat first|assumption|exact get_last|(refine get_last2 ?_;focus (simp;done))|apply get_set|apply get_app|(apply get_ne;focus omega)|(apply get_ne;focus (simp only [List.length_set,List.length_append,List.length_cons,List.length_nil];omega)));done),trivial⟩
      · exact ResO.cellB1 rfl (get_ne (by decide : (8 : Nat) ≠ 0) (get_ne (by decide : (3 : Nat) ≠ 0) (get_ne (by decide : (2 : Nat) ≠ 0) (get_ne (by decide : (1 : Nat) ≠ 0) (get_set f0))))) rfl
      · exact ResO.cellB1 rfl (get_ne (by decide : (8 : Nat) ≠ 1) (get_ne (by decide : (3 : Nat) ≠ 1) (get_ne (by decide : (2 : Nat) ≠ 1) (get_set (get_ne (by decide : (0 : Nat) ≠ 1) f1))))) rfl
      · exact ResO.cellB1 rfl (get_ne (by decide : (8 : Nat) ≠ 2) (get_ne (by decide : (3 : Nat) ≠ 2) (get_set (get_ne (by decide : (1 : Nat) ≠ 2) (get_ne (by decide : (0 : Nat) ≠ 2) f2))))) rfl
      · exact ResO.cellB1 rfl (get_ne (by decide : (8 : Nat) ≠ 3) (get_set (get_ne (by decide : (2 : Nat) ≠ 3) (get_ne (by decide : (1 : Nat) ≠ 3) (get_ne (by decide : (0 : Nat) ≠ 3) f3))))) rfl
      · exact Le.nil rfl
      · exact Le.of_eq rfl
      · exact Le.of_eq rfl
      · exact Le.of_eq rfl
    · refine ⟨_,_,hD.a9.trans (congrArg some (hX _ _)),by decide,?_⟩
      have f8 : (h'.set 9 .dead)[8]? = some rawN:=get_ne (by decide) hD.a8
      obtain ⟨v0,fv0,hv0⟩:=hD.a0
      have f0 : ((h'.set 9 .dead).set 8 .dead)[0]? = _:=get_ne (by decide) (get_ne (by decide) fv0)
      have f1 : ((h'.set 9 .dead).set 8 .dead)[1]? = _:=get_ne (by decide) (get_ne (by decide) hD.a1)
      have f2 : ((h'.set 9 .dead).set 8 .dead)[2]? = _:=get_ne (by decide) (get_ne (by decide) hD.a2)
      have f3 : ((h'.set 9 .dead).set 8 .dead)[3]? = _:=get_ne (by decide) (get_ne (by decide) hD.a3)
      repeat' first
 | refine tr ?_
 | (refine br ?_)
      rw [resV_eq]
      exact rL4 rfl ⟨f8,trivial⟩ (ResO.cellB1 rfl f0 rfl) (ResO.cellB1 rfl f1 rfl) (ResO.cellB1 rfl f2 rfl) (ResO.cellB1 rfl f3 rfl) hv0 (Le.of_eq rfl) (Le.of_eq rfl) (Le.of_eq rfl)
end Go.Proofs
