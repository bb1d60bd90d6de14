/- The plain law of trees: what a tree has, in order. -/
import Derived.Test.YtjojdiefnhbglaaGreatYD1
set_option linter.all false
namespace Go.Proofs
open Go.AL Go.Sort
abbrev Kv:=List UInt8 × List UInt8
theorem cbz (a b : List UInt8) (h : cbB a b = 0) : a = b:=(cmpB_z a b).1 h
theorem cb_self (a : List UInt8) : cbB a a = 0:=(cmpB_z a a).2 rfl
theorem cblt {x y z : List UInt8} (h1 : cbB x y ≤ 0) (h2 : cbB y z ≤ 0) (h3 : cbB x y < 0 ∨ cbB y z < 0) : cbB x z < 0:=wc_cb.lt h1 h2 h3
theorem cb_gt0 {a b : List UInt8} : 0 < cbB a b ↔ cbB b a < 0:=(wc_cb.anti b a).symm
def keysT (t : Tr) : List (List UInt8):=(toL t).map (·.1)
def RiseT (t : Tr) : Prop:=Rise cbB (keysT t)
theorem keys_nd (k v : List UInt8) (l r : Tr) (d m : Int) : keysT (.nd k v l r d m) = keysT l ++ k :: keysT r:=by
  unfold keysT;rw [toL,List.map_append,List.map_cons]
theorem keys_len (t : Tr) : (keysT t).length = sz t:=by unfold keysT;rw [List.length_map,toL_len]
theorem rise_nd {k v : List UInt8} {l r : Tr} {d m : Int} (h : RiseT (.nd k v l r d m)) : RiseT l ∧ RiseT r ∧ (∀ x,x ∈ keysT l → cbB x k < 0) ∧ (∀ x,x ∈ keysT r → cbB k x < 0):=by
  unfold RiseT Rise at *
  rw [keys_nd] at h
  obtain ⟨h1,h2,h3⟩:=List.pairwise_append.1 h
  obtain ⟨h4,h5⟩:=List.pairwise_cons.1 h2
  exact ⟨h1,h5,fun x hx=>h3 x hx k (.head _),fun x hx=>h4 x hx⟩
theorem insC_left {k a : List UInt8} (h : cbB k a < 0) : ∀ (A B : List (List UInt8)),insC cbB k (A ++ a :: B) = insC cbB k A ++ a :: B
  | [],B=>by
    have h1 : 0 < cbB a k:=cb_gt0.2 h
    simp only [List.nil_append,insC]
    rw [if_neg (by omega),if_neg (by omega)];rfl
  | x :: A,B=>by
    have ih:=insC_left h A B
    simp only [List.cons_append,insC]
    split
    · rw [ih];rfl
    · split <;> rfl
theorem insC_right {k a : List UInt8} (h : cbB a k < 0) : ∀ (A B : List (List UInt8)),(∀ x,x ∈ A → cbB x a < 0) → insC cbB k (A ++ a :: B) = A ++ a :: insC cbB k B
  | [],B,_=>by simp only [List.nil_append,insC];rw [if_pos h]
  | x :: A,B,hA=>by
    have ih:=insC_right h A B fun y hy=>hA y (.tail _ hy)
    have hx : cbB x k < 0:=cblt (by have:=hA x (.head _);omega) (by omega) (.inr h)
    simp only [List.cons_append,insC]
    rw [if_pos hx,ih]
theorem insC_same {a : List UInt8} : ∀ (A B : List (List UInt8)),(∀ x,x ∈ A → cbB x a < 0) → insC cbB a (A ++ a :: B) = A ++ a :: B
  | [],B,_=>by
    simp only [List.nil_append,insC]
    rw [if_neg (by rw [cb_self];omega),if_pos (cb_self a)]
  | x :: A,B,hA=>by
    have ih:=insC_same A B fun y hy=>hA y (.tail _ hy)
    simp only [List.cons_append,insC]
    rw [if_pos (hA x (.head _)),ih]
theorem put_keys (key val : List UInt8) : ∀ {t : Tr},okT t → RiseT t → sz t < 1152921504606846976 → keysT (putT key val t) = insC cbB key (keysT t)
  | .no,_,_,_=>by rw [put_no];simp [keysT,toL,insC]
  | .nd k v l r d m,h,hr,hs=>by
    obtain ⟨r1,r2,r3,r4⟩:=rise_nd hr
    unfold okT at h
    simp only [sz] at hs
    have il:=put_keys key val h.2.2.1 r1 (by omega)
    have ir:=put_keys key val h.2.2.2 r2 (by omega)
    obtain ⟨a1,a2,a3⟩:=put_ok key val h.2.2.1 (by omega)
    obtain ⟨b1,b2,b3⟩:=put_ok key val h.2.2.2 (by omega)
    rw [put_nd,keys_nd]
    by_cases c1 : cbB key k < 0
    · rw [if_pos c1]
      obtain ⟨_,_,e⟩:=level_ok (k:=k) (v:=v) a1 h.2.2.2 (by omega)
      unfold keysT
      rw [e,List.map_append,List.map_cons]
      show keysT (putT key val l) ++ k :: keysT r = _
      rw [il];exact (insC_left c1 _ _).symm
    · rw [if_neg c1]
      by_cases c2 : 0 < cbB key k
      · rw [if_pos c2]
        obtain ⟨_,_,e⟩:=level_ok (k:=k) (v:=v) h.2.2.1 b1 (by omega)
        unfold keysT
        rw [e,List.map_append,List.map_cons]
        show keysT l ++ k :: keysT (putT key val r) = _
        rw [ir];exact (insC_right (cb_gt0.1 c2) _ _ r3).symm
      · rw [if_neg c2]
        have e0 : key = k:=cbz _ _ (by omega)
        subst e0
        obtain ⟨_,_,e,_⟩:=join_ok (k:=key) (v:=val) h.2.2.1 h.2.2.2 (by omega)
        unfold keysT
        rw [e,List.map_append,List.map_cons]
        exact (insC_same _ _ r3).symm
theorem put_rise (key val : List UInt8) {t : Tr} (h : okT t) (hr : RiseT t) (hs : sz t < 1152921504606846976) : RiseT (putT key val t):=by
  unfold RiseT;rw [put_keys key val h hr hs];exact insC_rise wc_cb cbz key hr
def NoV : Tr → Prop
  | .no=>True
  | .nd _ v l r _ _=>v = [] ∧ NoV l ∧ NoV r
theorem noV_iff : ∀ {t : Tr},NoV t ↔ ∀ p,p ∈ toL t → p.2 = []
  | .no=>by simp [NoV,toL]
  | .nd k v l r d m=>by
    rw [NoV,noV_iff (t:=l),noV_iff (t:=r),toL]
    constructor
    · rintro ⟨h1,h2,h3⟩ p hp
      rcases List.mem_append.1 hp with hp|hp
      · exact h2 p hp
      · rcases List.mem_cons.1 hp with rfl|hp
        · exact h1
        · exact h3 p hp
    · intro h
      exact ⟨h (k,v) (List.mem_append_right _ (.head _)),fun p hp=>h p (List.mem_append_left _ hp),fun p hp=>h p (List.mem_append_right _ (.tail _ hp))⟩
theorem put_noV (key : List UInt8) : ∀ {t : Tr},okT t → NoV t → sz t < 1152921504606846976 → NoV (putT key [] t)
  | .no,_,_,_=>by rw [put_no];exact ⟨rfl,trivial,trivial⟩
  | .nd k v l r d m,h,hv,hs=>by
    unfold okT at h
    simp only [sz] at hs
    have il:=put_noV key h.2.2.1 hv.2.1 (by omega)
    have ir:=put_noV key h.2.2.2 hv.2.2 (by omega)
    obtain ⟨a1,a2,a3⟩:=put_ok key [] h.2.2.1 (by omega)
    obtain ⟨b1,b2,b3⟩:=put_ok key [] h.2.2.2 (by omega)
    have key2 : ∀ (x : Tr) (k v : List UInt8) (a b : Tr),toL x = toL a ++ (k,v) :: toL b → v = [] → NoV a → NoV b → NoV x:=fun x k v a b e h1 h2 h3=>by
      rw [noV_iff,e]
      intro p hp
      rcases List.mem_append.1 hp with hp|hp
      · exact noV_iff.1 h2 p hp
      · rcases List.mem_cons.1 hp with rfl|hp
        · exact h1
        · exact noV_iff.1 h3 p hp
    rw [put_nd]
    split
    · exact key2 _ _ _ _ _ (level_ok (k:=k) (v:=v) a1 h.2.2.2 (by omega)).2.2 hv.1 il hv.2.2
    · split
      · exact key2 _ _ _ _ _ (level_ok (k:=k) (v:=v) h.2.2.1 b1 (by omega)).2.2 hv.1 hv.2.1 ir
      · exact key2 _ _ _ _ _ (join_ok (k:=key) (v:=[]) h.2.2.1 h.2.2.2 (by omega)).2.2.1 rfl hv.2.1 hv.2.2
theorem rank_keys (key : List UInt8) : ∀ {t : Tr},RiseT t → rankT key t = ((keysT t).filter fun x=>decide (cbB x key < 0)).length
  | .no,_=>by rw [rankT];simp [keysT,toL]
  | .nd k v l r d m,hr=>by
    obtain ⟨r1,r2,r3,r4⟩:=rise_nd hr
    rw [rank_nd,keys_nd,List.filter_append,List.length_append]
    by_cases c1 : cbB k key < 0
    · have e1 : (keysT l).filter (fun x=>decide (cbB x key < 0)) = keysT l:=List.filter_eq_self.2 fun x hx=>by
        simp only [decide_eq_true_eq];exact cblt (by have:=r3 x hx;omega) (by omega) (.inr c1)
      rw [if_pos c1,e1,List.filter_cons,if_pos (by simpa using c1),List.length_cons,keys_len,rank_keys key r2];omega
    · have e1 : (k :: keysT r).filter (fun x=>decide (cbB x key < 0)) = []:=List.filter_eq_nil_iff.2 fun x hx=>by
        simp only [decide_eq_true_eq]
        rcases List.mem_cons.1 hx with rfl|hx
        · exact c1
        · have h1:=r4 x hx
          intro h2
          exact c1 (cblt (by omega) (by omega) (.inl h1))
      rw [if_neg c1,e1,rank_keys key r1];simp
def atT : Nat → Tr → Kv
  | _,.no=>([],[])
  | i,.nd k v l r _ _=>if i < sz l then atT i l else if i = sz l then (k,v) else atT (i - (sz l + 1)) r
theorem at_toL : ∀ {t : Tr} {i : Nat},i < sz t → (toL t)[i]? = some (atT i t)
  | .no,i,h=>by simp [sz] at h
  | .nd k v l r d m,i,h=>by
    simp only [sz] at h
    rw [toL,atT]
    have hl:=toL_len l
    by_cases c1 : i < sz l
    · rw [if_pos c1,List.getElem?_append_left (by omega)];exact at_toL c1
    · rw [if_neg c1,List.getElem?_append_right (by omega),hl]
      by_cases c2 : i = sz l
      · rw [if_pos c2,c2,Nat.sub_self];rfl
      · rw [if_neg c2,show i - sz l = (i - (sz l + 1)) + 1 by omega,List.getElem?_cons_succ]
        exact at_toL (by omega)
def fromT (key : List UInt8) : Tr → List Kv
  | .no=>[]
  | .nd k v l r _ _=>(if 0 ≤ cbB k key then fromT key l ++ [(k,v)] else []) ++ fromT key r
theorem from_toL (key : List UInt8) : ∀ {t : Tr},RiseT t → fromT key t = (toL t).filter fun p=>decide (0 ≤ cbB p.1 key)
  | .no,_=>by rw [fromT];rfl
  | .nd k v l r d m,hr=>by
    obtain ⟨r1,r2,r3,r4⟩:=rise_nd hr
    rw [fromT,toL,List.filter_append,from_toL key r2]
    by_cases c : 0 ≤ cbB k key
    · rw [if_pos c,from_toL key r1,List.filter_cons,if_pos (by simpa using c)];simp
    · have e : (toL l).filter (fun p=>decide (0 ≤ cbB p.1 key)) = []:=List.filter_eq_nil_iff.2 fun p hp=>by
        simp only [decide_eq_true_eq]
        have h1:=r3 p.1 (List.mem_map.2 ⟨p,hp,rfl⟩)
        have:=cblt (z:=key) (x:=p.1) (y:=k) (by omega) (by omega) (.inl h1)
        omega
      rw [if_neg c,e,List.filter_cons,if_neg (by simpa using c)]
end Go.Proofs

namespace Go.Proofs
open Go.AL Go.Sort
attribute [local irreducible] Go.AL.W Go.AL.WL Go.AL.WD Go.AL.POp Go.AL.PPOp Go.AL.POpS Go.AL.PC Go.AL.AC Go.AL.YW Go.AL.Ret Go.AL.Le Go.AL.thn Go.AL.inBlk Go.AL.scp
abbrev pA (p : Kv) : AV:=.ag [bsA p.1,bsA p.2]
theorem nul_pA : Le (.ag [.sc (.slice none 0 0),.sc (.slice none 0 0)]) (pA ([],[])):=leAg ⟨Le.nil rfl,Le.nil rfl,trivial⟩
def shT (t : Tr) : Prop:=∀ p,p ∈ toL t → p.1.length < 70368744177664 ∧ p.2.length < 70368744177664
theorem shT_nd {k v : List UInt8} {l r : Tr} {d m : Int} (h : shT (.nd k v l r d m)) : shT l ∧ shT r ∧ k.length < 70368744177664 ∧ v.length < 70368744177664:=by
  unfold shT at *
  rw [toL] at h
  exact ⟨fun p hp=>h p (List.mem_append_left _ hp),fun p hp=>h p (List.mem_append_right _ (.tail _ hp)),h (k,v) (List.mem_append_right _ (.head _))⟩
set_option maxHeartbeats 16000000 in
theorem tatN_pc [GlobF Tryz.prog] (i : Int) (o : Option Tr) (ho : okT (topT o)) (hi : ¬ (0 ≤ i ∧ i < sz (topT o))) : PC Tryz.prog 115 [oT o,.sc (.int .i64 i)] (.tu [pA ([],[]),.sc (.bool false)]):=by
  have h1:=root_pc o
  have h2:=many_pc (topT o)
  rw [(okT_deep ho).2] at h2
  generalize topT o = t at *
  refine PC.of_body Tryz.func115 Tryz.ntmps115 rfl rfl rfl ?_
  repeat' first
 | (apply p1 (hd:=rfl);case hop=>first|(apply D_move;rfl)|(apply D_assign;rfl)|(apply D_pc h1;rfl;exact .same rfl .nil)|(apply D_pc h2;rfl;exact .same rfl .nil)|(apply D_pickT;rfl;rfl)|(apply D_pickF;rfl;rfl)|(apply D_int;rfl;rfl;rfl)|exact D_build rfl)
 | refine W_seq ?_
 | refine W_region ?_
 | (refine idC ?_;first|refine c1 rfl ?_|refine cs rfl (fun _=>?_) (fun _=>?_))
 | refine WL_nil ?_
 | (refine idG ?_;first|refine g0f rfl rfl rfl ?_|refine gr rfl rfl ?_|refine gs rfl rfl (fun _=>?_) (fun _=>?_))
 | refine tn ?_
 | refine tr ?_
 | refine W_skip ?_
 | refine W_block ?_
 | refine W_ret ?_
 | (refine idR ?_;first|refine rL2 rfl (by first|exact trivial|exact ⟨rfl,trivial⟩) (by exact ResO.cellBA rfl rfl rfl) (by exact ResO.tmp rfl) ?_ ?_)
 | (refine idA ?_;refine m_alloc rfl ?_)
 | (refine idS ?_;refine pS (S_store rfl rfl rfl rfl rfl rfl rfl) ?_)
 | (refine Le.bool ?_)
  all_goals first|rfl|contradiction|exact nul_pA|(exfalso;exact hi ⟨by omega,by omega⟩)|skip
set_option maxHeartbeats 16000000 in
theorem tat_pc [GlobF Tryz.prog] (i : Nat) (o : Option Tr) (ho : okT (topT o)) (hs : sz (topT o) < 1152921504606846975) (hk : shT (topT o)) (hi : i < sz (topT o)) : PC Tryz.prog 115 [oT o,.sc (.int .i64 (i : Int))] (.tu [pA (atT i (topT o)),.sc (.bool true)]):=by
  have h1:=root_pc o
  have h2:=many_pc (topT o)
  rw [(okT_deep ho).2] at h2
  generalize topT o = t at *
  have g1 : Value.bool (iLt (i : Int) 0) = .bool false:=by rw [(iLt_f _ _).mpr (by omega)]
  have g2 : Value.bool (iLe (sz t : Int) (i : Int)) = .bool false:=by rw [(iLe_f _ _).mpr (by omega)]
  refine PC.of_body Tryz.func115 Tryz.ntmps115 rfl rfl rfl ?_
  repeat' first
 | (apply p1 (hd:=rfl);case hop=>first|(apply D_move;rfl)|(apply D_assign;rfl)|(apply D_pc h1;rfl;exact .same rfl .nil)|(apply D_pc h2;rfl;exact .same rfl .nil)|exact D_sc (D_int rfl rfl rfl) g1|exact D_sc (D_int rfl rfl rfl) g2|(apply D_pickF;rfl;rfl))
 | refine W_seq ?_
 | refine W_region ?_
 | (refine idC ?_;refine c0 rfl ?_)
 | refine WL_nil ?_
 | (refine idG ?_;refine gr rfl rfl ?_)
 | refine tn ?_
 | refine W_skip ?_
 | refine W_block ?_
 | (refine idA ?_;refine m_alloc rfl ?_)
  refine W_loopL (X:=Tr × Nat) (fun c=>[(1,.sc (.int .i64 (c.2 : Int))),(4,.bp 0 0),(6,tA c.1)]) (fun _=>[.cells [.sc (.slice none 0 0),.sc (.slice none 0 0)]])
    (fun c=>okT c.1 ∧ shT c.1 ∧ c.2 < sz c.1 ∧ sz c.1 ≤ sz t ∧ atT c.2 c.1 = atT i t) (fun c=>sz c.1) (t,i) ⟨ho,hk,hi,Nat.le_refl _,rfl⟩ ⟨rfl,rfl,rfl,trivial⟩ rfl ?_
  rintro ⟨c,n⟩ ⟨hc,hsh,hn,hb,ha⟩
  dsimp only at hc hsh hn hb ha ⊢
  cases c with
  | no=>simp [sz] at hn
  | nd k v l r d m =>
    have hc':=hc
    unfold okT at hc'
    obtain ⟨s1,s2,s3,s4⟩:=shT_nd hsh
    have hml:=many_pc l
    have el:=(okT_deep hc'.2.2.1).2
    rw [el] at hml
    simp only [sz] at hn hb
    rw [atT] at ha
    simp only [tA_nd]
    by_cases c1 : n = sz l
    · rw [if_neg (by omega),if_pos c1] at ha
      have e0 : Value.bool (bNot (iEq (n : Int) (sz l : Int))) = .bool false:=by rw [(iEq_t _ _).mpr (by omega)];simp [bNot]
      have c4:=cloneB_pc k s3
      have c5:=cloneB_pc v s4
      rw [← ha]
      repeat' first
 | (apply p1 (hd:=rfl);case hop=>first|(apply D_move;rfl)|exact D_nilE rfl|(apply D_pc hml;rfl;exact .same rfl .nil)|exact D_sc (D_int rfl rfl rfl) e0|(apply D_load1;rfl)|(apply D_fld;rfl))
 | refine W_seq ?_
 | refine W_region ?_
 | (refine idC ?_;refine c0 rfl ?_)
 | refine WL_nil ?_
 | refine tn ?_
 | refine te ?_
 | (refine idB ?_;refine bh rfl ?_)
 | refine W_exit ?_
 | refine W_ret ?_
 | (refine idR ?_;first|refine rL2 rfl (by first|exact trivial|exact ⟨rfl,trivial⟩) (by exact ResO.cellBA rfl rfl rfl) (by exact ResO.tmp rfl) ?_ ?_)
 | refine Le.bool ?_
 | (refine idW ?_;refine W_draw0 rfl ?_)
 | (apply d1 (hd:=rfl);case hop=>first|(apply D_move;rfl)|(apply D_assign;rfl)|exact D_nilE rfl|(apply D_pc c4;rfl;exact .same rfl .nil)|(apply D_pc c5;rfl;exact .same rfl .nil)|(apply D_load1;rfl)|(apply D_fld;rfl)|exact D_build rfl)
 | (refine idDn ?_;refine dS (S_store rfl rfl rfl rfl rfl rfl rfl) rfl ?_)
 | (refine WD_nil (by first|decide +kernel|kernel_rfl|rfl) ?_)
      all_goals first|exact Le.of_eq rfl|rfl|contradiction|skip
    · have e0 : Value.bool (bNot (iEq (n : Int) (sz l : Int))) = .bool true:=by rw [(iEq_f _ _).mpr (by omega)];simp [bNot]
      by_cases c2 : n < sz l
      · rw [if_pos c2] at ha
        have e1 : Value.bool (iLt (n : Int) (sz l : Int)) = .bool true:=by rw [(iLt_t _ _).mpr (by omega)]
        repeat' first
 | (apply p1 (hd:=rfl);case hop=>first|(apply D_move;rfl)|(apply D_assign;rfl)|exact D_nilE rfl|(apply D_pc hml;rfl;exact .same rfl .nil)|exact D_sc (D_int rfl rfl rfl) e0|exact D_sc (D_int rfl rfl rfl) e1|(apply D_load1;rfl)|(apply D_fld;rfl)|(apply D_int;rfl;rfl;rfl))
 | refine W_seq ?_
 | refine W_region ?_
 | (refine idC ?_;refine cs rfl (fun _=>?_) (fun _=>?_))
 | refine WL_nil ?_
 | refine tn ?_
 | refine bn ?_
 | refine te ?_
 | (refine idB ?_;refine bh rfl ?_)
 | refine W_skip ?_
 | refine W_block ?_
 | refine W_exit ?_
 | (refine idW ?_;refine W_draw0 rfl ?_)
 | (apply d1 (hd:=rfl);case hop=>first|(apply D_move;rfl)|exact D_nilE rfl|(apply D_load1;rfl)|(apply D_fld;rfl))
 | (fail)
        all_goals first|contradiction|exact ⟨rfl,(l,n),⟨hc'.2.2.1,s1,c2,by show sz l ≤ _;omega,ha⟩,by simp only [sz];omega,⟨rfl,rfl,rfl,trivial⟩,rfl⟩|skip
      · rw [if_neg c2,if_neg c1] at ha
        have e1 : Value.bool (iLt (n : Int) (sz l : Int)) = .bool false:=by rw [(iLt_f _ _).mpr (by omega)]
        have w1 : Value.int .i64 (IntKind.i64.wrap ((sz l : Int) + 1)) = .int .i64 ((sz l + 1 : Nat) : Int):=by rw [w64 _ (by omega) (by omega)];congr 1
        have w2 : Value.int .i64 (IntKind.i64.wrap ((n : Int) - ((sz l + 1 : Nat) : Int))) = .int .i64 ((n - (sz l + 1) : Nat) : Int):=by rw [w64 _ (by omega) (by omega)];congr 1;omega
        repeat' first
 | (apply p1 (hd:=rfl);case hop=>first|(apply D_move;rfl)|(apply D_assign;rfl)|exact D_nilE rfl|(apply D_pc hml;rfl;exact .same rfl .nil)|exact D_sc (D_int rfl rfl rfl) e0|exact D_sc (D_int rfl rfl rfl) e1|exact D_sc (D_int rfl rfl rfl) w1|exact D_sc (D_int rfl rfl rfl) w2|(apply D_load1;rfl)|(apply D_fld;rfl))
 | refine W_seq ?_
 | refine W_region ?_
 | (refine idC ?_;first|refine c0 rfl ?_|refine cs rfl (fun _=>?_) (fun _=>?_))
 | refine WL_nil ?_
 | refine tn ?_
 | refine bn ?_
 | refine te ?_
 | (refine idB ?_;refine bh rfl ?_)
 | refine W_skip ?_
 | refine W_block ?_
 | refine W_exit ?_
 | (refine idW ?_;refine W_draw0 rfl ?_)
 | (apply d1 (hd:=rfl);case hop=>first|(apply D_move;rfl)|exact D_nilE rfl|(apply D_load1;rfl)|(apply D_fld;rfl))
 | (fail)
        all_goals first|contradiction|exact ⟨rfl,(r,n - (sz l + 1)),⟨hc'.2.2.2,s2,by show n - (sz l + 1) < sz r;omega,by show sz r ≤ _;omega,ha⟩,by simp only [sz];omega,⟨rfl,rfl,rfl,trivial⟩,rfl⟩|skip
set_option maxHeartbeats 8000000 in
theorem tseek_pc [GlobF Tryz.prog] (key : List UInt8) (o : Option Tr) (ho : okT (topT o)) (hs : sz (topT o) < 1152921504606846975) (hk : shT (topT o)) (h : rankT key (topT o) < sz (topT o)) : PC Tryz.prog 59 [oT o,bsA key] (.tu [pA (atT (rankT key (topT o)) (topT o)),.sc (.bool true)]):=by
  have h1:=rank_pc key o ho (by omega)
  have h2:=tat_pc (rankT key (topT o)) o ho hs hk h
  refine PC.of_body Tryz.func59 Tryz.ntmps59 rfl rfl rfl ?_
  repeat' first
 | (apply p1 (hd:=rfl);case hop=>first|(apply D_move;rfl)|(apply D_assign;rfl)|(apply D_pc h1;rfl;exact .same rfl (.same rfl .nil))|(apply D_pc h2;rfl;exact .same rfl (.same rfl .nil))|(apply D_ext;rfl;rfl))
 | refine W_seq ?_
 | refine W_region ?_
 | refine WL_nil ?_
 | refine tn ?_
 | refine W_ret ?_
 | (refine idR ?_;first|refine rL2 rfl (by first|exact trivial|exact ⟨rfl,trivial⟩) (by exact ResO.cellBA rfl rfl rfl) (by exact ResO.tmp rfl) ?_ ?_)
 | (refine idA ?_;refine m_alloc rfl ?_)
 | (refine idS ?_;refine pS (S_store rfl rfl rfl rfl rfl rfl rfl) ?_)
 | (refine Le.bool ?_)
  all_goals first|exact Le.of_eq rfl|rfl|contradiction|skip
set_option maxHeartbeats 8000000 in
theorem tseekN_pc [GlobF Tryz.prog] (key : List UInt8) (o : Option Tr) (ho : okT (topT o)) (hs : sz (topT o) < 1152921504606846975) (h : ¬ rankT key (topT o) < sz (topT o)) : PC Tryz.prog 59 [oT o,bsA key] (.tu [pA ([],[]),.sc (.bool false)]):=by
  have h1:=rank_pc key o ho (by omega)
  have h2:=tatN_pc (rankT key (topT o) : Int) o ho (by omega)
  refine PC.of_body Tryz.func59 Tryz.ntmps59 rfl rfl rfl ?_
  repeat' first
 | (apply p1 (hd:=rfl);case hop=>first|(apply D_move;rfl)|(apply D_assign;rfl)|(apply D_pc h1;rfl;exact .same rfl (.same rfl .nil))|(apply D_pc h2;rfl;exact .same rfl (.same rfl .nil))|(apply D_ext;rfl;rfl))
 | refine W_seq ?_
 | refine W_region ?_
 | refine WL_nil ?_
 | refine tn ?_
 | refine W_ret ?_
 | (refine idR ?_;first|refine rL2 rfl (by first|exact trivial|exact ⟨rfl,trivial⟩) (by exact ResO.cellBA rfl rfl rfl) (by exact ResO.tmp rfl) ?_ ?_)
 | (refine idA ?_;refine m_alloc rfl ?_)
 | (refine idS ?_;refine pS (S_store rfl rfl rfl rfl rfl rfl rfl) ?_)
 | (refine Le.bool ?_)
  all_goals first|exact Le.of_eq rfl|rfl|contradiction|skip
end Go.Proofs
