/- The plain law of trees: what a tree has, in order. -/
import Derived.Test.YtjojdiefnhbglaaGreatYD1
import Derived.Test.YtjojdiefnhbglaaGreatYD3
set_option linter.all false
namespace Go.Proofs
open Go.AL Go.Sort
theorem cbz (a b : List UInt8) (h : cbB a b = 0) : a = b:=(cmpB_z a b).1 h
theorem cb_self (a : List UInt8) : cbB a a = 0:=(cmpB_z a a).2 rfl
theorem cblt {x y z : List UInt8} (h1 : cbB x y ≤ 0) (h2 : cbB y z ≤ 0) (h3 : cbB x y < 0 ∨ cbB y z < 0) : cbB x z < 0:=wc_cb.lt h1 h2 h3
theorem cb_gt0 {a b : List UInt8} : 0 < cbB a b ↔ cbB b a < 0:=(wc_cb.anti b a).symm
def keysT (t : Tr) : List (List UInt8):=(toL t).map (·.1)
def RiseT (t : Tr) : Prop:=Rise cbB (keysT t)
theorem keys_nd (k v : List UInt8) (l r : Tr) (d m : Int) : keysT (.nd k v l r d m) = keysT l ++ k :: keysT r:=by
  unfold keysT;rw [toL,List.map_append,List.map_cons]
theorem keys_len (t : Tr) : (keysT t).length = sz t:=by unfold keysT;rw [List.length_map,toL_len]
theorem rise_nd {k v : List UInt8} {l r : Tr} {d m : Int} (h : RiseT (.nd k v l r d m)) : RiseT l ∧ RiseT r ∧ (∀ x,x ∈ keysT l → cbB x k < 0) ∧ (∀ x,x ∈ keysT r → cbB k x < 0):=by
  unfold RiseT Rise at *
  rw [keys_nd] at h
  obtain ⟨h1,h2,h3⟩:=List.pairwise_append.1 h
  obtain ⟨h4,h5⟩:=List.pairwise_cons.1 h2
  exact ⟨h1,h5,fun x hx=>h3 x hx k (.head _),fun x hx=>h4 x hx⟩
theorem insC_left {k a : List UInt8} (h : cbB k a < 0) : ∀ (A B : List (List UInt8)),insC cbB k (A ++ a :: B) = insC cbB k A ++ a :: B
  | [],B=>by
    have h1 : 0 < cbB a k:=cb_gt0.2 h
    simp only [List.nil_append,insC]
    rw [if_neg (by omega),if_neg (by omega)];rfl
  | x :: A,B=>by
    have ih:=insC_left h A B
    simp only [List.cons_append,insC]
    split
    · rw [ih];rfl
    · split <;> rfl
theorem insC_right {k a : List UInt8} (h : cbB a k < 0) : ∀ (A B : List (List UInt8)),(∀ x,x ∈ A → cbB x a < 0) → insC cbB k (A ++ a :: B) = A ++ a :: insC cbB k B
  | [],B,_=>by simp only [List.nil_append,insC];rw [if_pos h]
  | x :: A,B,hA=>by
    have ih:=insC_right h A B fun y hy=>hA y (.tail _ hy)
    have hx : cbB x k < 0:=cblt (by have:=hA x (.head _);omega) (by omega) (.inr h)
    simp only [List.cons_append,insC]
    rw [if_pos hx,ih]
theorem insC_same {a : List UInt8} : ∀ (A B : List (List UInt8)),(∀ x,x ∈ A → cbB x a < 0) → insC cbB a (A ++ a :: B) = A ++ a :: B
  | [],B,_=>by
    simp only [List.nil_append,insC]
    rw [if_neg (by rw [cb_self];omega),if_pos (cb_self a)]
  | x :: A,B,hA=>by
    have ih:=insC_same A B fun y hy=>hA y (.tail _ hy)
    simp only [List.cons_append,insC]
    rw [if_pos (hA x (.head _)),ih]
theorem put_keys (key val : List UInt8) : ∀ {t : Tr},okT t → RiseT t → sz t < 1152921504606846976 → keysT (putT key val t) = insC cbB key (keysT t)
  | .no,_,_,_=>by rw [put_no];simp [keysT,toL,insC]
  | .nd k v l r d m,h,hr,hs=>by
    obtain ⟨r1,r2,r3,r4⟩:=rise_nd hr
    unfold okT at h
    simp only [sz] at hs
    have il:=put_keys key val h.2.2.1 r1 (by omega)
    have ir:=put_keys key val h.2.2.2 r2 (by omega)
    obtain ⟨a1,a2,a3⟩:=put_ok key val h.2.2.1 (by omega)
    obtain ⟨b1,b2,b3⟩:=put_ok key val h.2.2.2 (by omega)
    rw [put_nd,keys_nd]
    by_cases c1 : cbB key k < 0
    · rw [if_pos c1]
      obtain ⟨_,_,e⟩:=level_ok (k:=k) (v:=v) a1 h.2.2.2 (by omega)
      unfold keysT
      rw [e,List.map_append,List.map_cons]
      show keysT (putT key val l) ++ k :: keysT r = _
      rw [il];exact (insC_left c1 _ _).symm
    · rw [if_neg c1]
      by_cases c2 : 0 < cbB key k
      · rw [if_pos c2]
        obtain ⟨_,_,e⟩:=level_ok (k:=k) (v:=v) h.2.2.1 b1 (by omega)
        unfold keysT
        rw [e,List.map_append,List.map_cons]
        show keysT l ++ k :: keysT (putT key val r) = _
        rw [ir];exact (insC_right (cb_gt0.1 c2) _ _ r3).symm
      · rw [if_neg c2]
        have e0 : key = k:=cbz _ _ (by omega)
        subst e0
        obtain ⟨_,_,e,_⟩:=join_ok (k:=key) (v:=val) h.2.2.1 h.2.2.2 (by omega)
        unfold keysT
        rw [e,List.map_append,List.map_cons]
        exact (insC_same _ _ r3).symm
theorem put_rise (key val : List UInt8) {t : Tr} (h : okT t) (hr : RiseT t) (hs : sz t < 1152921504606846976) : RiseT (putT key val t):=by
  unfold RiseT;rw [put_keys key val h hr hs];exact insC_rise wc_cb cbz key hr
def NoV : Tr → Prop
  | .no=>True
  | .nd _ v l r _ _=>v = [] ∧ NoV l ∧ NoV r
theorem noV_iff : ∀ {t : Tr},NoV t ↔ ∀ p,p ∈ toL t → p.2 = []
  | .no=>by simp [NoV,toL]
  | .nd k v l r d m=>by
    rw [NoV,noV_iff (t:=l),noV_iff (t:=r),toL]
    constructor
    · rintro ⟨h1,h2,h3⟩ p hp
      rcases List.mem_append.1 hp with hp|hp
      · exact h2 p hp
      · rcases List.mem_cons.1 hp with rfl|hp
        · exact h1
        · exact h3 p hp
    · intro h
      exact ⟨h (k,v) (List.mem_append_right _ (.head _)),fun p hp=>h p (List.mem_append_left _ hp),fun p hp=>h p (List.mem_append_right _ (.tail _ hp))⟩
theorem put_noV (key : List UInt8) : ∀ {t : Tr},okT t → NoV t → sz t < 1152921504606846976 → NoV (putT key [] t)
  | .no,_,_,_=>by rw [put_no];exact ⟨rfl,trivial,trivial⟩
  | .nd k v l r d m,h,hv,hs=>by
    unfold okT at h
    simp only [sz] at hs
    have il:=put_noV key h.2.2.1 hv.2.1 (by omega)
    have ir:=put_noV key h.2.2.2 hv.2.2 (by omega)
    obtain ⟨a1,a2,a3⟩:=put_ok key [] h.2.2.1 (by omega)
    obtain ⟨b1,b2,b3⟩:=put_ok key [] h.2.2.2 (by omega)
    have key2 : ∀ (x : Tr) (k v : List UInt8) (a b : Tr),toL x = toL a ++ (k,v) :: toL b → v = [] → NoV a → NoV b → NoV x:=fun x k v a b e h1 h2 h3=>by
      rw [noV_iff,e]
      intro p hp
      rcases List.mem_append.1 hp with hp|hp
      · exact noV_iff.1 h2 p hp
      · rcases List.mem_cons.1 hp with rfl|hp
        · exact h1
        · exact noV_iff.1 h3 p hp
    rw [put_nd]
    split
    · exact key2 _ _ _ _ _ (level_ok (k:=k) (v:=v) a1 h.2.2.2 (by omega)).2.2 hv.1 il hv.2.2
    · split
      · exact key2 _ _ _ _ _ (level_ok (k:=k) (v:=v) h.2.2.1 b1 (by omega)).2.2 hv.1 hv.2.1 ir
      · exact key2 _ _ _ _ _ (join_ok (k:=key) (v:=[]) h.2.2.1 h.2.2.2 (by omega)).2.2.1 rfl hv.2.1 hv.2.2
end Go.Proofs

namespace Go.Proofs
open Go.AL Go.Sort
attribute [local irreducible] Go.AL.W Go.AL.WL Go.AL.WD Go.AL.POp Go.AL.PPOp Go.AL.POpS Go.AL.PC Go.AL.AC Go.AL.YW Go.AL.Ret Go.AL.Le Go.AL.thn Go.AL.inBlk Go.AL.scp
end Go.Proofs

namespace Go.Proofs
open Go.AL Go.Sort
structure TreeOf (o : Int) (L : List Dat) (t : Option Tr) : Prop where
  ok : okT (topT t)
  rise : RiseT (topT t)
  nov : NoV (topT t)
  keys : ∀ k,k ∈ keysT (topT t) ↔ ∃ d,d ∈ L ∧ dkeyE o d = 0 ∧ dkeyB o d = k
  len : sz (topT t) ≤ L.length
theorem TreeOf.skip {o : Int} {L : List Dat} {t : Option Tr} {d : Dat} (h : TreeOf o L t) (hd : dkeyE o d ≠ 0) : TreeOf o (L ++ [d]) t :=
  ⟨h.ok,h.rise,h.nov,fun k=>by
    rw [h.keys]
    constructor
    · rintro ⟨x,hx,h1⟩;exact ⟨x,List.mem_append_left _ hx,h1⟩
    · rintro ⟨x,hx,h1⟩
      rcases List.mem_append.1 hx with hx|hx
      · exact ⟨x,hx,h1⟩
      · rw [List.mem_singleton.1 hx] at h1;exact absurd h1.1 hd,by have:=h.len;simp;omega⟩
theorem TreeOf.put {o : Int} {L : List Dat} {t : Option Tr} {d : Dat} (h : TreeOf o L t) (hd : dkeyE o d = 0) (hl : L.length < 1152921504606846975) : TreeOf o (L ++ [d]) (some (putT (dkeyB o d) [] (topT t))):=by
  have hs : sz (topT t) < 1152921504606846976:=by have:=h.len;omega
  obtain ⟨a1,a2,a3⟩:=put_ok (dkeyB o d) [] h.ok hs
  refine ⟨a1,put_rise _ _ h.ok h.rise hs,put_noV _ h.ok h.nov hs,fun k=>?_,?_⟩
  · show k ∈ keysT (putT (dkeyB o d) [] (topT t)) ↔ _
    rw [put_keys _ _ h.ok h.rise hs,insC_mem cbz,h.keys]
    constructor
    · rintro (rfl | ⟨x,hx,h1⟩)
      · exact ⟨d,by simp,hd,rfl⟩
      · exact ⟨x,List.mem_append_left _ hx,h1⟩
    · rintro ⟨x,hx,h1,h2⟩
      rcases List.mem_append.1 hx with hx|hx
      · exact .inr ⟨x,hx,h1,h2⟩
      · rw [List.mem_singleton.1 hx] at h2;exact .inl h2.symm
  · have:=h.len
    show sz (putT (dkeyB o d) [] (topT t)) ≤ _
    simp;omega
theorem key_ok {o : Int} {d : Dat} (ho : 1 ≤ o ∧ o ≤ 4) : dkeyE o d = 0 ↔ dmayP d ∧ hasP o d:=by
  unfold dkeyE
  rw [if_pos ho]
  split
  · exact ⟨fun _=>by assumption,fun _=>rfl⟩
  · exact ⟨fun h=>absurd h (by decide),fun h=>absurd h (by assumption)⟩
theorem key_cmpD {o : Int} {a b : Dat} (ho : 1 ≤ o ∧ o ≤ 4) (ia : datI a) (ib : datI b) (ha : dkeyE o a = 0) (hb : dkeyE o b = 0) : cbB (dkeyB o a) (dkeyB o b) = cmpD o a b:=by
  have:=key_cmp ia ib ha hb
  rw [if_pos ho] at this
  exact this
def okL (L : List Dat) : Prop:=∀ d,d ∈ L → dmayP d ∧ datI d
theorem hasB_t (o : Int) (d : Dat) : hasB o d = true ↔ hasP o d:=by unfold hasB;rw [dP_t]
theorem dsort_mem {o : Int} (ho : 1 ≤ o ∧ o ≤ 4) (L : List Dat) (d : Dat) : d ∈ dsortL o L ↔ d ∈ L ∧ hasP o d:=by
  unfold dsortL
  rw [if_pos ho,sortC_mem,List.mem_filter,hasB_t]
theorem dsort_rise {o : Int} (ho : 1 ≤ o ∧ o ≤ 4) (L : List Dat) : Rise (cmpD o) (dsortL o L):=by
  unfold dsortL
  rw [if_pos ho];exact sortC_rise (wc_cmpD o) (cmpD_z o) _
theorem TreeOf.sorted {o : Int} {L : List Dat} {t : Option Tr} (h : TreeOf o L t) (ho : 1 ≤ o ∧ o ≤ 4) (hL : okL L) : keysT (topT t) = (dsortL o L).map (dkeyB o):=by
  have hk : ∀ d,d ∈ dsortL o L → dkeyE o d = 0 ∧ datI d:=fun d hd=>by
    obtain ⟨h1,h2⟩:=(dsort_mem ho L d).1 hd
    exact ⟨(key_ok ho).2 ⟨(hL d h1).1,h2⟩,(hL d h1).2⟩
  refine rise_eq wc_cb h.rise ?_ fun k=>?_
  · have key : ∀ l : List Dat,(∀ d,d ∈ l → dkeyE o d = 0 ∧ datI d) → Rise (cmpD o) l → Rise cbB (l.map (dkeyB o)):=by
      intro l
      induction l with
      | nil=>exact fun _ _=>List.Pairwise.nil
      | cons x l ih =>
        intro hx hr
        unfold Rise at *
        obtain ⟨h1,h2⟩:=List.pairwise_cons.1 hr
        refine List.pairwise_cons.2 ⟨fun k hk=>?_,ih (fun d hd=>hx d (.tail _ hd)) h2⟩
        obtain ⟨y,hy,rfl⟩:=List.mem_map.1 hk
        have e1:=hx x (.head _)
        have e2:=hx y (.tail _ hy)
        rw [key_cmpD ho e1.2 e2.2 e1.1 e2.1]
        exact h1 y hy
    exact key _ hk (dsort_rise ho L)
  · rw [h.keys,List.mem_map]
    constructor
    · rintro ⟨d,hd,h1,h2⟩
      exact ⟨d,(dsort_mem ho L d).2 ⟨hd,((key_ok ho).1 h1).2⟩,h2⟩
    · rintro ⟨d,hd,h2⟩
      exact ⟨d,((dsort_mem ho L d).1 hd).1,(hk d hd).1,h2⟩
theorem TreeOf.size {o : Int} {L : List Dat} {t : Option Tr} (h : TreeOf o L t) (ho : 1 ≤ o ∧ o ≤ 4) (hL : okL L) : sz (topT t) = (dsortL o L).length:=by
  rw [← keys_len,h.sorted ho hL,List.length_map]
end Go.Proofs
