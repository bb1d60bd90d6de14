/- Contracts of tree's functions: how deep, how many, two joined, levelled. -/
import Derived.Test.YtjojdiefnhbglaaEC1
import Derived.Test.YtjojdiefnhbglaaOps12
set_option linter.all false
namespace Go.Proofs
open Go.AL Go.Sort
attribute [local irreducible] Go.AL.W Go.AL.WL Go.AL.WD Go.AL.POp Go.AL.PPOp Go.AL.POpS Go.AL.PC Go.AL.AC Go.AL.YW Go.AL.Ret Go.AL.Le Go.AL.thn Go.AL.inBlk Go.AL.scp
inductive Tr where
  | no : Tr
  | nd (k v : List UInt8) (l r : Tr) (d m : Int) : Tr
abbrev bsA (b : List UInt8) : AV:=.sl none 1 (b.map byteC)
def tA : Tr → AV
  | .no=>.sc (.pointer none)
  | .nd k v l r d m=>.ep [bsA k,bsA v,tA l,tA r,.sc (.int .i64 d),.sc (.int .i64 m)]
theorem pur_tA : ∀ t : Tr,Pur (tA t)
  | .no=>by unfold tA;infer_instance
  | .nd k v l r d m=>by
    have h1:=pur_tA l
    have h2:=pur_tA r
    unfold tA
    infer_instance
instance (t : Tr) : Pur (tA t):=pur_tA t
def deepT : Tr → Int
  | .no=>0
  | .nd _ _ _ _ d _=>d
def manyT : Tr → Int
  | .no=>0
  | .nd _ _ _ _ _ m=>m
def joinT (k v : List UInt8) (l r : Tr) : Tr:=.nd k v l r (IntKind.i64.wrap (1 + max (deepT l) (deepT r))) (IntKind.i64.wrap (IntKind.i64.wrap (1 + manyT l) + manyT r))
end Go.Proofs

namespace Go.Proofs
open Go.AL Go.Sort
attribute [local irreducible] Go.AL.W Go.AL.WL Go.AL.WD Go.AL.POp Go.AL.PPOp Go.AL.POpS Go.AL.PC Go.AL.AC Go.AL.YW Go.AL.Ret Go.AL.Le Go.AL.thn Go.AL.inBlk Go.AL.scp
def levelT (k v : List UInt8) (l r : Tr) : Tr :=
  if deepT r + 1 < deepT l then
    match l with
    | .no=>.no
    | .nd lk lv ll lr _ _=>if deepT lr ≤ deepT ll then joinT lk lv ll (joinT k v lr r) else
      match lr with
      | .no=>.no
      | .nd ak av al ar _ _=>joinT ak av (joinT lk lv ll al) (joinT k v ar r)
  else if deepT l + 1 < deepT r then
    match r with
    | .no=>.no
    | .nd rk rv rl rr _ _=>if deepT rl ≤ deepT rr then joinT rk rv (joinT k v l rl) rr else
      match rl with
      | .no=>.no
      | .nd ak av al ar _ _=>joinT ak av (joinT k v l al) (joinT rk rv ar rr)
  else joinT k v l r
theorem dOk_nd {t : Tr} (h : 0 < deepT t) : ∃ k v l r d m,t = .nd k v l r d m:=by
  cases t with
  | no=>exact absurd h (by decide)
  | nd k v l r d m=>exact ⟨k,v,l,r,d,m,rfl⟩
theorem level_1 {k v lk lv : List UInt8} {ll lr r : Tr} {ld lm : Int} (h1 : deepT r + 1 < deepT (.nd lk lv ll lr ld lm)) (h2 : deepT lr ≤ deepT ll) : levelT k v (.nd lk lv ll lr ld lm) r = joinT lk lv ll (joinT k v lr r):=by
  simp only [levelT,if_pos h1,if_pos h2]
theorem level_2 {k v lk lv ak av : List UInt8} {ll al ar r : Tr} {ld lm ad am : Int} (h1 : deepT r + 1 < deepT (.nd lk lv ll (.nd ak av al ar ad am) ld lm)) (h2 : ¬ deepT (.nd ak av al ar ad am) ≤ deepT ll) : levelT k v (.nd lk lv ll (.nd ak av al ar ad am) ld lm) r = joinT ak av (joinT lk lv ll al) (joinT k v ar r):=by
  simp only [levelT,if_pos h1,if_neg h2]
theorem level_3 {k v rk rv : List UInt8} {rl rr l : Tr} {rd rm : Int} (h0 : ¬ deepT (.nd rk rv rl rr rd rm) + 1 < deepT l) (h1 : deepT l + 1 < deepT (.nd rk rv rl rr rd rm)) (h2 : deepT rl ≤ deepT rr) : levelT k v l (.nd rk rv rl rr rd rm) = joinT rk rv (joinT k v l rl) rr:=by
  simp only [levelT,if_neg h0,if_pos h1,if_pos h2]
theorem level_4 {k v rk rv ak av : List UInt8} {rr al ar l : Tr} {rd rm ad am : Int} (h0 : ¬ deepT (.nd rk rv (.nd ak av al ar ad am) rr rd rm) + 1 < deepT l) (h1 : deepT l + 1 < deepT (.nd rk rv (.nd ak av al ar ad am) rr rd rm)) (h2 : ¬ deepT (.nd ak av al ar ad am) ≤ deepT rr) : levelT k v l (.nd rk rv (.nd ak av al ar ad am) rr rd rm) = joinT ak av (joinT k v l al) (joinT rk rv ar rr):=by
  simp only [levelT,if_neg h0,if_pos h1,if_neg h2]
theorem level_5 {k v : List UInt8} {l r : Tr} (h0 : ¬ deepT r + 1 < deepT l) (h1 : ¬ deepT l + 1 < deepT r) : levelT k v l r = joinT k v l r:=by
  simp only [levelT,if_neg h0,if_neg h1]
end Go.Proofs

namespace Go.Proofs
open Go.AL Go.Sort
attribute [local irreducible] Go.AL.W Go.AL.WL Go.AL.WD Go.AL.POp Go.AL.PPOp Go.AL.POpS Go.AL.PC Go.AL.AC Go.AL.YW Go.AL.Ret Go.AL.Le Go.AL.thn Go.AL.inBlk Go.AL.scp
instance : Xt Try.prog 133 Extern.BytealgCompare.compare:=⟨run_callFunc_extern Try.func133 (by kernel_rfl) (by kernel_rfl) (by kernel_rfl) (by kernel_rfl)⟩
abbrev cbB (a b : List UInt8) : Int:=Lib.compareBytes a b
def ht : Tr → Nat
  | .no=>0
  | .nd _ _ l r _ _=>1 + max (ht l) (ht r)
def sz : Tr → Nat
  | .no=>0
  | .nd _ _ l r _ _=>1 + sz l + sz r
def okT : Tr → Prop
  | .no=>True
  | .nd _ _ l r d m=>d = ((1 + max (ht l) (ht r) : Nat) : Int) ∧ m = ((1 + sz l + sz r : Nat) : Int) ∧ okT l ∧ okT r
theorem ht_sz : ∀ t : Tr,ht t ≤ sz t
  | .no=>Nat.le_refl _
  | .nd _ _ l r _ _=>by
    have h1:=ht_sz l
    have h2:=ht_sz r
    simp only [ht,sz];omega
theorem okT_deep {t : Tr} (h : okT t) : deepT t = (ht t : Int) ∧ manyT t = (sz t : Int):=by
  cases t with
  | no=>exact ⟨rfl,rfl⟩
  | nd k v l r d m=>unfold okT at h;exact ⟨h.1,h.2.1⟩
def toL : Tr → List (List UInt8 × List UInt8)
  | .no=>[]
  | .nd k v l r _ _=>toL l ++ (k,v) :: toL r
theorem join_ok {k v : List UInt8} {l r : Tr} (hl : okT l) (hr : okT r) (hs : 1 + sz l + sz r ≤ 1152921504606846976) : okT (joinT k v l r) ∧ sz (joinT k v l r) = 1 + sz l + sz r ∧ toL (joinT k v l r) = toL l ++ (k,v) :: toL r ∧ ht (joinT k v l r) = 1 + max (ht l) (ht r):=by
  obtain ⟨l1,l2⟩:=okT_deep hl
  obtain ⟨r1,r2⟩:=okT_deep hr
  have h1:=ht_sz l
  have h2:=ht_sz r
  have e1 : IntKind.i64.wrap (1 + max (deepT l) (deepT r)) = ((1 + max (ht l) (ht r) : Nat) : Int):=by rw [w64 _ (by omega) (by omega)];omega
  have e2 : IntKind.i64.wrap (IntKind.i64.wrap (1 + manyT l) + manyT r) = ((1 + sz l + sz r : Nat) : Int):=by rw [w64 (1 + manyT l) (by omega) (by omega),w64 _ (by omega) (by omega)];omega
  refine ⟨?_,rfl,rfl,rfl⟩
  unfold joinT
  rw [e1,e2]
  exact ⟨rfl,rfl,hl,hr⟩
theorem level_ok {k v : List UInt8} {l r : Tr} (hl : okT l) (hr : okT r) (hs : 1 + sz l + sz r ≤ 1152921504606846976) : okT (levelT k v l r) ∧ sz (levelT k v l r) = 1 + sz l + sz r ∧ toL (levelT k v l r) = toL l ++ (k,v) :: toL r:=by
  obtain ⟨l1,l2⟩:=okT_deep hl
  obtain ⟨r1,r2⟩:=okT_deep hr
  by_cases c1 : deepT r + 1 < deepT l
  · obtain ⟨lk,lv,ll,lr,ld,lm,rfl⟩:=dOk_nd (t:=l) (by omega)
    have hl':=hl
    unfold okT at hl'
    obtain ⟨_,_,hll,hlr⟩:=hl'
    simp only [sz] at hs
    by_cases c2 : deepT lr ≤ deepT ll
    · rw [level_1 c1 c2]
      obtain ⟨a1,a2,a3,_⟩:=join_ok (k:=k) (v:=v) hlr hr (by omega)
      obtain ⟨b1,b2,b3,_⟩:=join_ok (k:=lk) (v:=lv) hll a1 (by omega)
      refine ⟨b1,by rw [b2,a2];simp only [sz];omega,?_⟩
      rw [b3,a3];simp [toL]
    · obtain ⟨x1,_⟩:=okT_deep hll
      obtain ⟨ak,av,al,ar,ad,am,rfl⟩:=dOk_nd (t:=lr) (by omega)
      rw [level_2 c1 c2]
      have hlr':=hlr
      unfold okT at hlr'
      simp only [sz] at hs
      obtain ⟨a1,a2,a3,_⟩:=join_ok (k:=lk) (v:=lv) hll hlr'.2.2.1 (by omega)
      obtain ⟨b1,b2,b3,_⟩:=join_ok (k:=k) (v:=v) hlr'.2.2.2 hr (by omega)
      obtain ⟨d1,d2,d3,_⟩:=join_ok (k:=ak) (v:=av) a1 b1 (by omega)
      refine ⟨d1,by rw [d2,a2,b2];simp only [sz];omega,?_⟩
      rw [d3,a3,b3];simp [toL]
  · by_cases c3 : deepT l + 1 < deepT r
    · obtain ⟨rk,rv,rl,rr,rd,rm,rfl⟩:=dOk_nd (t:=r) (by omega)
      have hr':=hr
      unfold okT at hr'
      obtain ⟨_,_,hrl,hrr⟩:=hr'
      simp only [sz] at hs
      by_cases c2 : deepT rl ≤ deepT rr
      · rw [level_3 c1 c3 c2]
        obtain ⟨a1,a2,a3,_⟩:=join_ok (k:=k) (v:=v) hl hrl (by omega)
        obtain ⟨b1,b2,b3,_⟩:=join_ok (k:=rk) (v:=rv) a1 hrr (by omega)
        refine ⟨b1,by rw [b2,a2];simp only [sz];omega,?_⟩
        rw [b3,a3];simp [toL]
      · obtain ⟨x1,_⟩:=okT_deep hrr
        obtain ⟨ak,av,al,ar,ad,am,rfl⟩:=dOk_nd (t:=rl) (by omega)
        rw [level_4 c1 c3 c2]
        have hrl':=hrl
        unfold okT at hrl'
        simp only [sz] at hs
        obtain ⟨a1,a2,a3,_⟩:=join_ok (k:=k) (v:=v) hl hrl'.2.2.1 (by omega)
        obtain ⟨b1,b2,b3,_⟩:=join_ok (k:=rk) (v:=rv) hrl'.2.2.2 hrr (by omega)
        obtain ⟨d1,d2,d3,_⟩:=join_ok (k:=ak) (v:=av) a1 b1 (by omega)
        refine ⟨d1,by rw [d2,a2,b2];simp only [sz];omega,?_⟩
        rw [d3,a3,b3];simp [toL]
    · rw [level_5 c1 c3]
      obtain ⟨a1,a2,a3,_⟩:=join_ok (k:=k) (v:=v) hl hr hs
      exact ⟨a1,a2,a3⟩
def putT (key val : List UInt8) : Tr → Tr
  | .no=>.nd key val .no .no 1 1
  | .nd k v l r _ _=>if cbB key k < 0 then levelT k v (putT key val l) r else if 0 < cbB key k then levelT k v l (putT key val r) else joinT key val l r
theorem put_no (key val : List UInt8) : putT key val .no = .nd key val .no .no 1 1:=by rw [putT]
theorem put_nd (key val k v : List UInt8) (l r : Tr) (d m : Int) : putT key val (.nd k v l r d m) = if cbB key k < 0 then levelT k v (putT key val l) r else if 0 < cbB key k then levelT k v l (putT key val r) else joinT key val l r:=by rw [putT]
theorem put_ok (key val : List UInt8) : ∀ {t : Tr},okT t → sz t < 1152921504606846976 → okT (putT key val t) ∧ sz (putT key val t) ≤ sz t + 1 ∧ sz t ≤ sz (putT key val t)
  | .no,_,_=>by
    rw [put_no]
    exact ⟨⟨rfl,rfl,trivial,trivial⟩,Nat.le_refl _,Nat.zero_le _⟩
  | .nd k v l r d m,h,hs=>by
    unfold okT at h
    simp only [sz] at hs
    rw [put_nd]
    obtain ⟨a1,a2,a3⟩:=put_ok key val h.2.2.1 (by omega)
    obtain ⟨b1,b2,b3⟩:=put_ok key val h.2.2.2 (by omega)
    split
    · obtain ⟨c1,c2,_⟩:=level_ok (k:=k) (v:=v) a1 h.2.2.2 (by omega)
      refine ⟨c1,?_,?_⟩ <;> (rw [c2];simp only [sz];omega)
    · split
      · obtain ⟨c1,c2,_⟩:=level_ok (k:=k) (v:=v) h.2.2.1 b1 (by omega)
        refine ⟨c1,?_,?_⟩ <;> (rw [c2];simp only [sz];omega)
      · obtain ⟨c1,c2,_⟩:=join_ok (k:=key) (v:=val) h.2.2.1 h.2.2.2 (by omega)
        refine ⟨c1,?_,?_⟩ <;> (rw [c2];simp only [sz];omega)
end Go.Proofs

namespace Go.Proofs
open Go.AL Go.Sort
attribute [local irreducible] Go.AL.W Go.AL.WL Go.AL.WD Go.AL.POp Go.AL.PPOp Go.AL.POpS Go.AL.PC Go.AL.AC Go.AL.YW Go.AL.Ret Go.AL.Le Go.AL.thn Go.AL.inBlk Go.AL.scp
def oT : Option Tr → AV
  | none=>.sc (.pointer none)
  | some t=>.ep [tA t]
theorem oT_no : oT none = .sc (.pointer none):=by rw [oT]
theorem oT_so (t : Tr) : oT (some t) = .ep [tA t]:=by rw [oT]
theorem pur_oT (o : Option Tr) : Pur (oT o):=by
  cases o with
  | none=>rw [oT_no];infer_instance
  | some t=>rw [oT_so];infer_instance
instance (o : Option Tr) : Pur (oT o):=pur_oT o
def topT (o : Option Tr) : Tr:=o.getD .no
end Go.Proofs

namespace Go.Proofs
open Go.AL Go.Sort
attribute [local irreducible] Go.AL.W Go.AL.WL Go.AL.WD Go.AL.POp Go.AL.PPOp Go.AL.POpS Go.AL.PC Go.AL.AC Go.AL.YW Go.AL.Ret Go.AL.Le Go.AL.thn Go.AL.inBlk Go.AL.scp
theorem toL_len : ∀ t : Tr,(toL t).length = sz t
  | .no=>rfl
  | .nd k v l r d m=>by
    have h1:=toL_len l
    have h2:=toL_len r
    simp only [toL,sz,List.length_append,List.length_cons];omega
end Go.Proofs

namespace Go.AL
theorem fn_inv {G : Gh} {v : Value} {f : FuncId} {ys : List AV} (h : Conc G v (.fn (.func f) [] ys)) (hz : LeL ys ys) : ∃ cb : List Value,v = .func (.func f) #[] cb.toArray ∧ ConcL (Gh.of G.imm) cb ys:=by
  cases h with
  | @fn _ fs cs _ _ l1 l2 h1 h2 =>
    have : fs = []:=by simpa using l1
    subst this
    exact ⟨cs,rfl,hz.conc ⟨l2,h2⟩⟩
theorem sort_none_ac {P : Program} [GlobF P] {ρ : Shelf.Ren} (L : Go.Proofs.SlLaysF0.n6 P ρ) (r q : Nat) (F : AV) (h : List AObj) : AC P (ρ.f 6) [.mr r q 0,F] h (fun v h'=>v = .tu [] ∧ h' = h):=by
  refine ⟨L.f6.enters rfl,fun B G w vs hr hc=>?_⟩
  obtain ⟨v1,vs1,rfl,c1,hc1⟩:=hc.inv_cons
  obtain ⟨v2,vs2,rfl,c2,hc2⟩:=hc1.inv_cons
  have:=hc2.inv_nil
  subst this
  obtain ⟨b,o',cap,rfl,hb,hcap,hq⟩:=mr_inv c1
  refine (Go.Proofs.AnyF.slices_SortFunc_none L _ cap v2 w).mono ?_
  rintro e w' ⟨rfl,rfl⟩
  exact ⟨_,G,_,.tu [],rfl,.refl G,hr,.tu rfl (fun i v x hv=>by simp at hv),rfl,rfl⟩
end Go.AL
