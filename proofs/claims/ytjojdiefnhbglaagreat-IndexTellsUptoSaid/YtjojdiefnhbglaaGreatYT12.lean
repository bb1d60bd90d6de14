/- Contracts of tree's functions: a range of pairs. -/
import Derived.Test.YtjojdiefnhbglaaGreatYT8
import Derived.Test.YtjojdiefnhbglaaGreatPS1
import Derived.Test.YtjojdiefnhbglaaGreatYI1
set_option linter.all false
namespace Go.Proofs
open Go.AL Go.Sort
attribute [local irreducible] Go.AL.W Go.AL.WL Go.AL.WD Go.AL.POp Go.AL.PPOp Go.AL.POpS Go.AL.PC Go.AL.AC Go.AL.YW Go.AL.Ret Go.AL.Le Go.AL.thn Go.AL.inBlk Go.AL.scp
def kvN : Tr → Kv
  | .no=>([],[])
  | .nd k v _ _ _ _=>(k,v)
abbrev kvC (p : Kv) : List AV:=[bsA p.1,bsA p.2]
abbrev slKv (l : List Kv) : AV:=.sl none 2 (l.map kvC)
theorem fromN_mem (key : List UInt8) : ∀ (t p : Tr),p ∈ fromN key t → (∃ k v l r d m,p = .nd k v l r d m) ∧ kvN p ∈ toL t
  | .no,p,h=>by rw [fromN] at h;cases h
  | .nd k v l r d m,p,h=>by
    rw [fromN_nd] at h
    rw [toL]
    rcases List.mem_append.1 h with h|h
    · split at h
      · rcases List.mem_append.1 h with h|h
        · obtain ⟨h1,h2⟩:=fromN_mem key l p h
          exact ⟨h1,by simp [h2]⟩
        · rw [List.mem_singleton.1 h];exact ⟨⟨k,v,l,r,d,m,rfl⟩,by simp [kvN]⟩
      · cases h
    · obtain ⟨h1,h2⟩:=fromN_mem key r p h
      exact ⟨h1,by simp [h2]⟩
theorem fromN_len (key : List UInt8) : ∀ t : Tr,(fromN key t).length ≤ sz t
  | .no=>by rw [fromN];exact Nat.zero_le _
  | .nd k v l r d m=>by
    have h1:=fromN_len key l
    have h2:=fromN_len key r
    rw [fromN_nd,sz]
    split <;> simp <;> omega
def goesT (to : List UInt8) (p : Tr) : Bool:=!(decide (0 < to.length) && decide (0 ≤ cbB (kvN p).1 to))
theorem goes_F {to k v : List UInt8} {l r : Tr} {d m : Int} (h1 : (0 : Int) < (to.length : Int)) (h2 : 0 ≤ cbB k to) : goesT to (.nd k v l r d m) = false:=by
  unfold goesT kvN;rw [decide_eq_true (show 0 < to.length by omega),decide_eq_true h2];rfl
theorem goes_T1 {to k v : List UInt8} {l r : Tr} {d m : Int} (h2 : cbB k to < 0) : goesT to (.nd k v l r d m) = true:=by
  unfold goesT kvN;rw [decide_eq_false (show ¬ 0 ≤ cbB k to by omega),Bool.and_false];rfl
theorem goes_T2 {to k v : List UInt8} {l r : Tr} {d m : Int} (h : (to.length : Int) ≤ 0) : goesT to (.nd k v l r d m) = true:=by
  unfold goesT;rw [decide_eq_false (show ¬ 0 < to.length by omega),Bool.false_and];rfl
set_option maxHeartbeats 16000000 in
theorem trange_pc [GlobF Tryz.prog] (low to : List UInt8) (o : Option Tr) (hs : sz (topT o) ≤ 262144) (hk : shT (topT o)) :
    PC Tryz.prog 100 [oT o,bsA low,bsA to,.sc (.int .i64 262144)] (slKv (((fromN low (topT o)).takeWhile (goesT to)).map kvN)):=by
  have h1:=root_pc o
  have h2:=from_pc low (topT o)
  have hlen:=fromN_len low (topT o)
  refine PC.of_body Tryz.func100 Tryz.ntmps100 rfl rfl rfl ?_
  repeat' first
 | (apply p1 (hd:=rfl);case hop=>first|(apply D_move;rfl)|(apply D_assign;rfl)|(apply D_pc h1;rfl;exact .same rfl .nil)|(apply D_pc h2;rfl;exact .same rfl (.same rfl .nil))|(apply D_box;rfl;rfl))
 | refine W_seq ?_
 | refine W_region ?_
 | refine WL_nil ?_
 | refine tn ?_
 | refine W_block ?_
 | (refine idA ?_;refine m_alloc rfl ?_)
  refine W_adoptC 0 0 2 124 rfl rfl ?_
  refine W_rangeX (.inl rfl) fun l1 X hX=>?_
  refine AC.mono (from1_ac low (goesT to) (fun o p=>o.length < 262144 ∧ (∃ k v l r d m,p = .nd k v l r d m) ∧ (kvN p).1.length < 70368744177664 ∧ (kvN p).2.length < 70368744177664) (topT o) l1 4
    (fun o=>[.cells [.sl (some 1) 2 ((o.map kvN).map kvC)],.tail o.length 2 124,rawD,X .ready none])
    (fun o=>[.cells [.sl (some 1) 2 ((o.map kvN).map kvC)],.tail o.length 2 124,rawD,X .done (some (.exit 0))]) (fun _=>True) ⟨fun _=>rfl,fun _=>rfl,?_⟩ [] [] _ (by rfl) trivial ?_) ?_
  · rintro o p ex - ⟨hol,⟨k,v,l,r,d,m,rfl⟩,hkl,hvl⟩
    have hcm:=bcmp_pc k to
    have hck:=cloneB_pc k hkl
    have hcv:=cloneB_pc v hvl
    rw [tA_nd]
    refine YW.round (r:=3) ((show _ = some (X .ready none) from rfl).trans (congrArg some (hX .ready none))) rfl rfl ?_
    repeat' first
 | (apply p1 (hd:=rfl);case hop=>first|(apply D_assign;rfl))
 | refine W_region ?_
 | (refine WL_nil ?_)
    refine ⟨rfl,(show _ = some (X .ready none) from rfl).trans (congrArg some (hX .ready none)),?_⟩
    refine W_hq (h':=[.cells [.sl (some 1) 2 ((o.map kvN).map kvC)],.tail o.length 2 124,rawD,X .busy none] ++ ex) (by rw [hX .busy none];rfl) ?_
    repeat' first
 | (refine idW ?_;refine W_dS0 (id:=5) 13 rfl rfl (by decide +kernel) ?_;simp only [List.take_succ_cons,List.take_zero,List.drop_succ_cons,List.drop_zero])
 | refine W_seq ?_
 | (refine idC ?_;first|refine c1 rfl ?_|refine c0 rfl ?_|refine cs rfl (fun _=>?_) (fun _=>?_))
 | refine WL_nil ?_
 | refine tn ?_
 | refine bn ?_
 | refine te ?_
 | (refine idB ?_;refine bm rfl ?_)
 | refine W_skip ?_
 | refine W_block ?_
 | refine W_exit ?_
 | (refine idS ?_;refine pS (S_store rfl rfl rfl rfl rfl rfl rfl) ?_)
 | (refine idAp ?_;refine m_appB rfl rfl rfl (by rfl) ?_ rfl rfl ?_ ?_ rfl ?_;(focus (simp;done));(focus (simp only [List.length_map,List.length_append,List.length_cons,List.length_nil];omega));(focus (simp only [List.length_map,List.length_append,List.length_cons,List.length_nil];omega)))
 | (refine idW ?_;refine W_draw0 rfl ?_)
 | (apply d1 (hd:=rfl);case hop=>first|(apply D_move;rfl)|exact D_nilE rfl|(apply D_pc hcm;rfl;exact .same rfl (.same rfl .nil))|(apply D_pc hck;rfl;exact .same rfl .nil)|(apply D_pc hcv;rfl;exact .same rfl .nil)|(apply D_load1;rfl)|(apply D_fld;rfl)|(apply D_pickT;rfl;rfl)|(apply D_pickF;rfl;rfl)|(apply D_int;rfl;rfl;rfl)|(apply D_lenM;rfl)|(apply D_lit;rfl;rfl;rfl;rfl)|exact D_build rfl)
 | (refine idDg ?_;first|refine dg0t rfl rfl rfl ?_|refine dg0f rfl rfl rfl ?_|refine dg0u rfl rfl rfl ?_|refine dgr rfl rfl ?_|refine dgs rfl rfl (fun _=>?_) (fun _=>?_))
 | (refine idDn ?_;refine dL _ (fun hp' hs=>D_loadB1 rfl (hs.trans rfl) rfl) rfl ?_)
 | (refine WD_nil (by first|decide +kernel|kernel_rfl|rfl) ?_)
    all_goals try (exfalso;rename_i hh;rw [List.length_map] at hh;omega)
    · refine ⟨rfl,⟨_,_,(show _ = some (X .busy none) from rfl).trans (congrArg some (hX _ _))⟩,.inr ⟨rfl,goes_F (by assumption) (by assumption),[],?_⟩⟩
      rw [← hX .done (some (.exit 0)),List.append_nil];rfl
    · refine ⟨rfl,⟨_,_,(show _ = some (X .busy none) from rfl).trans (congrArg some (hX _ _))⟩,.inl ⟨rfl,goes_T1 (by assumption),trivial,[],?_⟩⟩
      rw [← hX .ready none,List.append_nil,List.map_append,List.map_append,show (o ++ [Tr.nd k v l r d m]).length = o.length + 1 by simp];simp only [List.length_map];rfl
    · refine ⟨rfl,⟨_,_,(show _ = some (X .busy none) from rfl).trans (congrArg some (hX _ _))⟩,.inl ⟨rfl,goes_T2 (by assumption),trivial,[],?_⟩⟩
      rw [← hX .ready none,List.append_nil,List.map_append,List.map_append,show (o ++ [Tr.nd k v l r d m]).length = o.length + 1 by simp];simp only [List.length_map];rfl
  · intro a p b h
    have hp:=fromN_mem low (topT o) p (by rw [h];simp)
    refine ⟨?_,hp.1,hk _ hp.2⟩
    have:=congrArg List.length h
    rw [List.length_append,List.length_cons] at this
    simp;omega
  · rintro _ h' (⟨hall,-,ex',rfl⟩ | ⟨hno,ex',rfl⟩)
    · refine ⟨_,_,(show _ = some (X .ready none) from rfl).trans (congrArg some (hX _ _)),by decide,?_⟩
      repeat' first
 | (apply p1 (hd:=rfl);case hop=>first|(apply D_assign;rfl))
 | refine W_seq ?_
 | refine W_region ?_
 | refine WL_nil ?_
 | refine tn ?_
 | refine bn ?_
 | refine W_ret ?_
 | (refine idR ?_;first|refine rL1 rfl (by first|exact trivial|exact ⟨rfl,trivial⟩) (by exact ResO.tmp rfl) ?_)
 | (refine idLd ?_;refine p1L (D_loadB1 rfl rfl rfl) rfl ?_)
      exact Le.tokq (by rw [show (fromN low (topT o)).takeWhile (goesT to) = fromN low (topT o) by have:=tw_app (goesT to) (b:=[]) hall;simpa using this,List.nil_append])
    · refine ⟨_,_,(show _ = some (X .done (some (.exit 0))) from rfl).trans (congrArg some (hX _ _)),by decide,?_⟩
      repeat' first
 | (apply p1 (hd:=rfl);case hop=>first|(apply D_assign;rfl))
 | refine W_seq ?_
 | refine W_region ?_
 | refine WL_nil ?_
 | refine tn ?_
 | (refine idB ?_;refine bh rfl ?_)
 | refine W_ret ?_
 | (refine idR ?_;first|refine rL1 rfl (by first|exact trivial|exact ⟨rfl,trivial⟩) (by exact ResO.tmp rfl) ?_)
 | (refine idLd ?_;refine p1L (D_loadB1 rfl rfl rfl) rfl ?_)
      exact Le.tokq (by simp)
end Go.Proofs

namespace Go.Proofs
open Go.AL Go.Sort
attribute [local irreducible] Go.AL.W Go.AL.WL Go.AL.WD Go.AL.POp Go.AL.PPOp Go.AL.POpS Go.AL.PC Go.AL.AC Go.AL.YW Go.AL.Ret Go.AL.Le Go.AL.thn Go.AL.inBlk Go.AL.scp
theorem tw_fil {α : Type} {R : α → α → Prop} {c : α → Bool} (hc : ∀ a b,R a b → c b = true → c a = true) : ∀ {l : List α},l.Pairwise R → l.takeWhile c = l.filter c
  | [],_=>rfl
  | x :: l,h=>by
    obtain ⟨h1,h2⟩:=List.pairwise_cons.1 h
    rw [List.takeWhile_cons,List.filter_cons]
    by_cases hx : c x = true
    · rw [if_pos hx,if_pos hx,tw_fil hc h2]
    · rw [if_neg hx,if_neg hx,List.filter_eq_nil_iff.2 fun y hy hcy=>hx (hc x y (h1 y hy) hcy)]
theorem fromN_T (key : List UInt8) : ∀ t : Tr,(fromN key t).map kvN = fromT key t
  | .no=>by rw [fromN,fromT];rfl
  | .nd k v l r d m=>by
    rw [fromN_nd,fromT,List.map_append,fromN_T key r]
    split
    · rw [List.map_append,fromN_T key l];rfl
    · rfl
noncomputable def preL (o : Int) (b : List UInt8) (L : List Dat) : List Dat:=(dsortL o L).filter fun d=>b.isPrefixOf (dkeyB o d)
theorem toL_L {o : Int} {L : List Dat} {t : Option Tr} (h : TreeOf o L t) (ho : 1 ≤ o ∧ o ≤ 4) (hL : okL L) : toL (topT t) = (dsortL o L).map fun d=>(dkeyB o d,[]):=by
  have h1:=h.sorted ho hL
  have h2:=noV_iff.1 h.nov
  have h3 : toL (topT t) = (keysT (topT t)).map fun k=>(k,[]):=by
    unfold keysT
    rw [List.map_map]
    conv=>lhs;rw [← List.map_id (toL (topT t))]
    exact List.map_congr_left fun p hp=>by have:=h2 p hp;obtain ⟨a,b⟩:=p;simp only at this;subst this;rfl
  rw [h3,h1,List.map_map];rfl
theorem end_pos {b e : List UInt8} (h : endR b = some e) : 0 < e.length:=by
  cases b with
  | nil=>rw [endR] at h;cases h
  | cons c r =>
    rw [endR] at h
    split at h
    · cases h;simp
    · split at h
      · cases h
      · cases h;simp
theorem in_pre (b k : List UInt8) : (!(decide (0 < (endV b).length) && decide (0 ≤ cbB k (endV b))) && decide (0 ≤ cbB k b)) = b.isPrefixOf k:=by
  have h:=inEnd_iff b k
  unfold inEnd at h
  rw [Bool.eq_iff_iff,List.isPrefixOf_iff_prefix,← h]
  unfold endV
  cases he : endR b with
  | none=>simp
  | some e =>
    have:=end_pos he
    simp only [Option.getD_some,Bool.and_eq_true,Bool.not_eq_true',Bool.and_eq_false_iff,decide_eq_false_iff_not,decide_eq_true_eq]
    constructor
    · rintro ⟨h1,h2⟩;exact ⟨h2,by omega⟩
    · rintro ⟨h1,h2⟩;exact ⟨.inr (by omega),h1⟩
theorem range_L {o : Int} {L : List Dat} {t : Option Tr} (h : TreeOf o L t) (ho : 1 ≤ o ∧ o ≤ 4) (hL : okL L) (b : List UInt8) :
    ((fromN b (topT t)).takeWhile (goesT (endV b))).map kvN = (preL o b L).map fun d=>(dkeyB o d,[]):=by
  have hg : goesT (endV b) = (fun p : Kv=>!(decide (0 < (endV b).length) && decide (0 ≤ cbB p.1 (endV b)))) ∘ kvN:=rfl
  rw [hg,← List.takeWhile_map,fromN_T,from_toL b h.rise]
  have hp : (toL (topT t)).Pairwise fun a b=>cbB a.1 b.1 < 0:=by
    have:=h.rise;unfold RiseT Rise keysT at this;exact List.pairwise_map.1 this
  rw [tw_fil (R:=fun a b : Kv=>cbB a.1 b.1 < 0) ?_ (hp.filter _),List.filter_filter,toL_L h ho hL,List.filter_map]
  · unfold preL
    congr 1
    exact List.filter_congr fun d _=>in_pre b (dkeyB o d)
  · intro x y hxy hy
    simp only [Bool.not_eq_true',Bool.and_eq_false_iff,decide_eq_false_iff_not] at hy ⊢
    rcases hy with hy|hy
    · exact .inl hy
    · exact .inr fun hx=>hy (by
        have:=cblt (x:=x.1) (y:=y.1) (z:=endV b)
        by_cases c : 0 ≤ cbB y.1 (endV b)
        · exact c
        · exact absurd (this (by omega) (by omega) (.inl hxy)) (by omega))
theorem shT_L {o : Int} {L : List Dat} {t : Option Tr} (h : TreeOf o L t) : shT (topT t):=fun p hp=>by
  have h1 : p.1 ∈ keysT (topT t):=List.mem_map.2 ⟨p,hp,rfl⟩
  obtain ⟨d,_,_,hd⟩:=(h.keys p.1).1 h1
  have:=dkey_len o d
  rw [hd] at this
  rw [noV_iff.1 h.nov p hp]
  exact ⟨by omega,by decide⟩
theorem cells_xA (x : Option Ix) : cellsO (xA x) = some [xA x]:=by cases x <;> rfl
theorem pur_xA (x : Option Ix) : Pur (xA x):=by
  cases x with
  | none=>rw [xA_no];infer_instance
  | some T=>rw [xA_so];infer_instance
instance (x : Option Ix) : Pur (xA x):=pur_xA x
set_option maxHeartbeats 4000000 in
theorem begin_pc [GlobF Tryz.prog] (x : Option Ix) (o : Int) (b : List UInt8) : PC Tryz.prog 44 [xA x,.sc (.int .i64 o),bsA b] (.fn (.func 98) [] [.ep [xA x],.ep [bsA b],.ep [.sc (.int .i64 o)]]):=by
  refine PC.of_body Tryz.func44 Tryz.ntmps44 rfl rfl rfl ?_
  repeat' first
 | (apply p1 (hd:=rfl);case hop=>first|(apply D_assign;rfl)|exact D_box rfl (cells_xA x)|(apply D_box;rfl;rfl)|exact D_mkfn rfl)
 | refine W_seq ?_
 | refine W_region ?_
 | refine WL_nil ?_
 | refine tn ?_
 | refine W_ret ?_
 | (refine idR ?_;refine ret1 rfl rfl rfl ?_)
  all_goals first|exact Le.of_eq rfl|rfl|contradiction|skip
theorem pre_no {o : Int} {L : List Dat} (h : TreeOf o L none) (ho : 1 ≤ o ∧ o ≤ 4) (hL : okL L) (b : List UInt8) : preL o b L = []:=by
  have:=toL_L h ho hL
  unfold preL
  rw [show dsortL o L = [] from List.map_eq_nil_iff.1 (this.symm.trans rfl)];rfl
set_option maxHeartbeats 16000000 in
theorem begin1_ac [GlobF Tryz.prog] (x : Option Ix) (L : List Dat) (hx : IxOf L (topI x)) (hL : okL L) (hl : L.length ≤ 262144) (o : Nat) (ho : 1 ≤ o ∧ o ≤ 4) (b : List UInt8) (hb : b.length < 1099511627776) (l : Nat) (I : Nat → List AObj → Prop) {h0 : List AObj} (hI : I 0 h0)
    (hy : ∀ (i : Nat) (hi : i < (preL o b L).length) (h : List AObj),I i h → YW Tryz.prog l [eD ((preL o b L)[i]'hi)] h (fun b h'=>b = true ∧ I (i + 1) h')) :
    AC Tryz.prog 98 [.sc (.func (.yield l) #[] #[]),.ep [xA x],.ep [bsA b],.ep [.sc (.int .i64 (o : Int))]] h0 (fun _ h'=>I (preL o b L).length h'):=by
  have htr:=hx o ho.1 ho.2
  rcases x with _|T
  · rw [pre_no htr (by omega) hL b] at *
    rw [xA_no]
    refine AC.of_body Tryz.func98 Tryz.ntmps98 rfl rfl rfl ?_
    repeat' first
 | (apply p1 (hd:=rfl);case hop=>first|exact D_peN rfl rfl|(apply D_load1;rfl))
 | refine W_seq ?_
 | refine W_region ?_
 | (refine idC ?_;refine c1 rfl ?_)
 | refine WL_nil ?_
 | refine tn ?_
 | refine tr ?_
 | refine W_ret ?_
 | refine W_scope ?_
 | (refine sr ?_)
    all_goals exact ret0 (.inl rfl) rfl rfl hI
  · have htr : TreeOf o L (T o):=htr
    have h1:=oend_pc b hb
    have h2:=trange_pc b (endV b) (T o) (Nat.le_trans htr.len hl) (shT_L htr)
    rw [range_L htr (by omega) hL b] at h2
    rw [xA_so]
    generalize hE : preL o b L = E at *
    have hkE : ∀ d,d ∈ E → dkeyE o d = 0 ∧ datI d:=fun d hd=>by
      rw [← hE] at hd
      obtain ⟨m1,m2⟩:=(dsort_mem (by omega) L d).1 (List.mem_filter.1 hd).1
      exact ⟨(key_ok (by omega)).2 ⟨(hL d m1).1,m2⟩,(hL d m1).2⟩
    have hEl : E.length ≤ 262144:=by
      have:=htr.size (by omega) hL
      have h3:=htr.len
      have h4 : E.length ≤ (dsortL (o : Int) L).length:=by rw [← hE];exact List.length_filter_le _ _
      omega
    have hel : ((E.map fun d=>(dkeyB o d,[])).map kvC).length = E.length:=by simp
    have hnT : Value.bool (bNot true) = .bool false:=by simp [bNot]
    have hM : (E.map fun d=>(dkeyB o d,([] : List UInt8))).map kvC = E.map fun d=>[bsA (dkeyB o d),bsA []]:=by rw [List.map_map];rfl
    unfold slKv at h2
    rw [hM] at h2
    rcases (by omega : o = 1 ∨ o = 2 ∨ o = 3 ∨ o = 4) with rfl|rfl|rfl|rfl
    · refine AC.of_body Tryz.func98 Tryz.ntmps98 rfl rfl rfl ?_
      repeat' first
 | (apply p1 (hd:=rfl);case hop=>first|(apply D_move;rfl)|(apply D_assign;rfl)|exact D_peE rfl rfl|(apply D_pc h1;rfl;exact .same rfl .nil)|(apply D_load1;rfl)|(apply D_ext;rfl;rfl))
 | refine W_seq ?_
 | refine W_region ?_
 | (refine idC ?_;refine c0 rfl ?_)
 | refine WL_nil ?_
 | refine tn ?_
 | refine W_skip ?_
 | refine W_block ?_
 | refine W_label ?_
 | refine W_scope ?_
 | (refine idW ?_;refine W_draw0 rfl ?_)
 | (apply d1 (hd:=rfl);case hop=>first|(apply D_move;rfl)|exact D_nilE rfl|(apply D_pc h2;rfl;exact .same rfl (.same rfl (.same rfl (.same rfl .nil))))|(apply D_load1;rfl)|(apply D_fld;rfl)|(apply D_lenM;rfl)|(apply D_ixPE;rfl;rfl;all_goals first|omega|((repeat rw [w64 _ (by omega) (by omega)]);omega)|decide))
 | (refine WD_nil (by first|decide +kernel|kernel_rfl|rfl) ?_)
      refine W_loopL (X:=Nat × List AObj) (fun c=>[(0,.sc (.func (.yield l) #[] #[])),(3,.ep [.sc (.int .i64 1)]),(26,.sl none 2 (E.map fun d=>[bsA (dkeyB ((1 : Nat) : Int) d),bsA []])),(27,.sc (.int .i64 (E.length : Int))),(28,.sc (.int .i64 (c.1 : Int)))]) (fun c=>c.2)
        (fun c=>c.1 ≤ E.length ∧ I c.1 c.2) (fun c=>E.length - c.1) (0,h0) ⟨Nat.zero_le _,hI⟩ ⟨rfl,rfl,rfl,ieq (by simp),rfl,trivial⟩ rfl ?_
      rintro ⟨i,h⟩ ⟨hi,hIi⟩
      simp only at hi hIi
      by_cases hil : i < E.length
      · have hkr:=hkE (E[i]'hil) (List.getElem_mem hil)
        have hrd:=dread_pc ((1 : Nat) : Int) (dkeyB ((1 : Nat) : Int) (E[i]'hil)) (by have:=dkey_len ((1 : Nat) : Int) (E[i]'hil);omega)
        obtain ⟨k1,k2⟩:=key_read hkr.2 hkr.1
        rw [k1,k2] at hrd
        have hyi:=hy i hil h hIi
        repeat' first
 | (apply p1 (hd:=rfl);case hop=>first|(apply D_move;rfl)|(apply D_assign;rfl)|(apply D_pc hrd;rfl;exact .same rfl (.same rfl .nil))|exact D_sc (D_not rfl) hnT|(apply D_load1;rfl)|(apply D_fld;rfl)|(apply D_pickT;rfl;rfl)|(apply D_pickF;rfl;rfl)|(apply D_int;rfl;rfl;rfl)|(apply D_ext;rfl;rfl)|(apply D_loadW;rfl;rfl)|(apply D_idxAn;rfl;rfl;(first|omega|(simp;done))))
 | refine W_seq ?_
 | refine W_region ?_
 | (refine idC ?_;first|refine c1 rfl ?_|refine c0 rfl ?_|refine cs rfl (fun _=>?_) (fun _=>?_))
 | refine WL_nil ?_
 | (refine idG ?_;first|refine g0f rfl rfl rfl ?_|refine gr rfl rfl ?_|refine gs rfl rfl (fun _=>?_) (fun _=>?_))
 | refine tn ?_
 | refine bn ?_
 | refine te ?_
 | (refine idB ?_;first|refine bh rfl ?_|refine bm rfl ?_)
 | refine W_skip ?_
 | refine W_block ?_
 | refine W_exit ?_
 | refine sn ?_
 | (refine idA ?_;refine m_var rfl rfl rfl rfl rfl rfl rfl ?_)
 | (refine m_yield rfl rfl rfl hyi ?_;rintro b h' ⟨rfl,hnx⟩)
        all_goals first
          | contradiction
          | (exfalso;rename_i hh;simp only at hh;omega)
          | exact ⟨rfl,(i + 1,h'),⟨hil,hnx⟩,by show E.length - (i + 1) < E.length - i;omega,⟨rfl,rfl,rfl,rfl,ieq (wsucc i (by omega)),trivial⟩,rfl⟩
          | skip
      · have e : i = E.length:=by omega
        subst e
        repeat' first
 | (apply p1 (hd:=rfl);case hop=>first|(apply D_load1;rfl)|(apply D_fld;rfl)|(apply D_int;rfl;rfl;rfl)|(apply D_loadW;rfl;rfl)|(apply D_idxAn;rfl;rfl;(first|omega|(simp;done))))
 | refine W_seq ?_
 | refine W_region ?_
 | (refine idC ?_;refine cs rfl (fun _=>?_) (fun _=>?_))
 | refine WL_nil ?_
 | refine tn ?_
 | refine te ?_
 | (refine idB ?_;refine bh rfl ?_)
 | refine W_skip ?_
 | refine W_block ?_
 | refine W_exit ?_
 | refine sn ?_
 | (refine idA ?_;refine m_var rfl rfl rfl rfl rfl rfl rfl ?_)
        all_goals first
          | (exfalso;rename_i hh;simp only at hh;omega)
          | exact ret0 (.inr rfl) rfl rfl hIi
          | skip
    · refine AC.of_body Tryz.func98 Tryz.ntmps98 rfl rfl rfl ?_
      repeat' first
 | (apply p1 (hd:=rfl);case hop=>first|(apply D_move;rfl)|(apply D_assign;rfl)|exact D_peE rfl rfl|(apply D_pc h1;rfl;exact .same rfl .nil)|(apply D_load1;rfl)|(apply D_ext;rfl;rfl))
 | refine W_seq ?_
 | refine W_region ?_
 | (refine idC ?_;refine c0 rfl ?_)
 | refine WL_nil ?_
 | refine tn ?_
 | refine W_skip ?_
 | refine W_block ?_
 | refine W_label ?_
 | refine W_scope ?_
 | (refine idW ?_;refine W_draw0 rfl ?_)
 | (apply d1 (hd:=rfl);case hop=>first|(apply D_move;rfl)|exact D_nilE rfl|(apply D_pc h2;rfl;exact .same rfl (.same rfl (.same rfl (.same rfl .nil))))|(apply D_load1;rfl)|(apply D_fld;rfl)|(apply D_lenM;rfl)|(apply D_ixPE;rfl;rfl;all_goals first|omega|((repeat rw [w64 _ (by omega) (by omega)]);omega)|decide))
 | (refine WD_nil (by first|decide +kernel|kernel_rfl|rfl) ?_)
      refine W_loopL (X:=Nat × List AObj) (fun c=>[(0,.sc (.func (.yield l) #[] #[])),(3,.ep [.sc (.int .i64 2)]),(26,.sl none 2 (E.map fun d=>[bsA (dkeyB ((2 : Nat) : Int) d),bsA []])),(27,.sc (.int .i64 (E.length : Int))),(28,.sc (.int .i64 (c.1 : Int)))]) (fun c=>c.2)
        (fun c=>c.1 ≤ E.length ∧ I c.1 c.2) (fun c=>E.length - c.1) (0,h0) ⟨Nat.zero_le _,hI⟩ ⟨rfl,rfl,rfl,ieq (by simp),rfl,trivial⟩ rfl ?_
      rintro ⟨i,h⟩ ⟨hi,hIi⟩
      simp only at hi hIi
      by_cases hil : i < E.length
      · have hkr:=hkE (E[i]'hil) (List.getElem_mem hil)
        have hrd:=dread_pc ((2 : Nat) : Int) (dkeyB ((2 : Nat) : Int) (E[i]'hil)) (by have:=dkey_len ((2 : Nat) : Int) (E[i]'hil);omega)
        obtain ⟨k1,k2⟩:=key_read hkr.2 hkr.1
        rw [k1,k2] at hrd
        have hyi:=hy i hil h hIi
        repeat' first
 | (apply p1 (hd:=rfl);case hop=>first|(apply D_move;rfl)|(apply D_assign;rfl)|(apply D_pc hrd;rfl;exact .same rfl (.same rfl .nil))|exact D_sc (D_not rfl) hnT|(apply D_load1;rfl)|(apply D_fld;rfl)|(apply D_pickT;rfl;rfl)|(apply D_pickF;rfl;rfl)|(apply D_int;rfl;rfl;rfl)|(apply D_ext;rfl;rfl)|(apply D_loadW;rfl;rfl)|(apply D_idxAn;rfl;rfl;(first|omega|(simp;done))))
 | refine W_seq ?_
 | refine W_region ?_
 | (refine idC ?_;first|refine c1 rfl ?_|refine c0 rfl ?_|refine cs rfl (fun _=>?_) (fun _=>?_))
 | refine WL_nil ?_
 | (refine idG ?_;first|refine g0f rfl rfl rfl ?_|refine gr rfl rfl ?_|refine gs rfl rfl (fun _=>?_) (fun _=>?_))
 | refine tn ?_
 | refine bn ?_
 | refine te ?_
 | (refine idB ?_;first|refine bh rfl ?_|refine bm rfl ?_)
 | refine W_skip ?_
 | refine W_block ?_
 | refine W_exit ?_
 | refine sn ?_
 | (refine idA ?_;refine m_var rfl rfl rfl rfl rfl rfl rfl ?_)
 | (refine m_yield rfl rfl rfl hyi ?_;rintro b h' ⟨rfl,hnx⟩)
        all_goals first
          | contradiction
          | (exfalso;rename_i hh;simp only at hh;omega)
          | exact ⟨rfl,(i + 1,h'),⟨hil,hnx⟩,by show E.length - (i + 1) < E.length - i;omega,⟨rfl,rfl,rfl,rfl,ieq (wsucc i (by omega)),trivial⟩,rfl⟩
          | skip
      · have e : i = E.length:=by omega
        subst e
        repeat' first
 | (apply p1 (hd:=rfl);case hop=>first|(apply D_load1;rfl)|(apply D_fld;rfl)|(apply D_int;rfl;rfl;rfl)|(apply D_loadW;rfl;rfl)|(apply D_idxAn;rfl;rfl;(first|omega|(simp;done))))
 | refine W_seq ?_
 | refine W_region ?_
 | (refine idC ?_;refine cs rfl (fun _=>?_) (fun _=>?_))
 | refine WL_nil ?_
 | refine tn ?_
 | refine te ?_
 | (refine idB ?_;refine bh rfl ?_)
 | refine W_skip ?_
 | refine W_block ?_
 | refine W_exit ?_
 | refine sn ?_
 | (refine idA ?_;refine m_var rfl rfl rfl rfl rfl rfl rfl ?_)
        all_goals first
          | (exfalso;rename_i hh;simp only at hh;omega)
          | exact ret0 (.inr rfl) rfl rfl hIi
          | skip
    · refine AC.of_body Tryz.func98 Tryz.ntmps98 rfl rfl rfl ?_
      repeat' first
 | (apply p1 (hd:=rfl);case hop=>first|(apply D_move;rfl)|(apply D_assign;rfl)|exact D_peE rfl rfl|(apply D_pc h1;rfl;exact .same rfl .nil)|(apply D_load1;rfl)|(apply D_ext;rfl;rfl))
 | refine W_seq ?_
 | refine W_region ?_
 | (refine idC ?_;refine c0 rfl ?_)
 | refine WL_nil ?_
 | refine tn ?_
 | refine W_skip ?_
 | refine W_block ?_
 | refine W_label ?_
 | refine W_scope ?_
 | (refine idW ?_;refine W_draw0 rfl ?_)
 | (apply d1 (hd:=rfl);case hop=>first|(apply D_move;rfl)|exact D_nilE rfl|(apply D_pc h2;rfl;exact .same rfl (.same rfl (.same rfl (.same rfl .nil))))|(apply D_load1;rfl)|(apply D_fld;rfl)|(apply D_lenM;rfl)|(apply D_ixPE;rfl;rfl;all_goals first|omega|((repeat rw [w64 _ (by omega) (by omega)]);omega)|decide))
 | (refine WD_nil (by first|decide +kernel|kernel_rfl|rfl) ?_)
      refine W_loopL (X:=Nat × List AObj) (fun c=>[(0,.sc (.func (.yield l) #[] #[])),(3,.ep [.sc (.int .i64 3)]),(26,.sl none 2 (E.map fun d=>[bsA (dkeyB ((3 : Nat) : Int) d),bsA []])),(27,.sc (.int .i64 (E.length : Int))),(28,.sc (.int .i64 (c.1 : Int)))]) (fun c=>c.2)
        (fun c=>c.1 ≤ E.length ∧ I c.1 c.2) (fun c=>E.length - c.1) (0,h0) ⟨Nat.zero_le _,hI⟩ ⟨rfl,rfl,rfl,ieq (by simp),rfl,trivial⟩ rfl ?_
      rintro ⟨i,h⟩ ⟨hi,hIi⟩
      simp only at hi hIi
      by_cases hil : i < E.length
      · have hkr:=hkE (E[i]'hil) (List.getElem_mem hil)
        have hrd:=dread_pc ((3 : Nat) : Int) (dkeyB ((3 : Nat) : Int) (E[i]'hil)) (by have:=dkey_len ((3 : Nat) : Int) (E[i]'hil);omega)
        obtain ⟨k1,k2⟩:=key_read hkr.2 hkr.1
        rw [k1,k2] at hrd
        have hyi:=hy i hil h hIi
        repeat' first
 | (apply p1 (hd:=rfl);case hop=>first|(apply D_move;rfl)|(apply D_assign;rfl)|(apply D_pc hrd;rfl;exact .same rfl (.same rfl .nil))|exact D_sc (D_not rfl) hnT|(apply D_load1;rfl)|(apply D_fld;rfl)|(apply D_pickT;rfl;rfl)|(apply D_pickF;rfl;rfl)|(apply D_int;rfl;rfl;rfl)|(apply D_ext;rfl;rfl)|(apply D_loadW;rfl;rfl)|(apply D_idxAn;rfl;rfl;(first|omega|(simp;done))))
 | refine W_seq ?_
 | refine W_region ?_
 | (refine idC ?_;first|refine c1 rfl ?_|refine c0 rfl ?_|refine cs rfl (fun _=>?_) (fun _=>?_))
 | refine WL_nil ?_
 | (refine idG ?_;first|refine g0f rfl rfl rfl ?_|refine gr rfl rfl ?_|refine gs rfl rfl (fun _=>?_) (fun _=>?_))
 | refine tn ?_
 | refine bn ?_
 | refine te ?_
 | (refine idB ?_;first|refine bh rfl ?_|refine bm rfl ?_)
 | refine W_skip ?_
 | refine W_block ?_
 | refine W_exit ?_
 | refine sn ?_
 | (refine idA ?_;refine m_var rfl rfl rfl rfl rfl rfl rfl ?_)
 | (refine m_yield rfl rfl rfl hyi ?_;rintro b h' ⟨rfl,hnx⟩)
        all_goals first
          | contradiction
          | (exfalso;rename_i hh;simp only at hh;omega)
          | exact ⟨rfl,(i + 1,h'),⟨hil,hnx⟩,by show E.length - (i + 1) < E.length - i;omega,⟨rfl,rfl,rfl,rfl,ieq (wsucc i (by omega)),trivial⟩,rfl⟩
          | skip
      · have e : i = E.length:=by omega
        subst e
        repeat' first
 | (apply p1 (hd:=rfl);case hop=>first|(apply D_load1;rfl)|(apply D_fld;rfl)|(apply D_int;rfl;rfl;rfl)|(apply D_loadW;rfl;rfl)|(apply D_idxAn;rfl;rfl;(first|omega|(simp;done))))
 | refine W_seq ?_
 | refine W_region ?_
 | (refine idC ?_;refine cs rfl (fun _=>?_) (fun _=>?_))
 | refine WL_nil ?_
 | refine tn ?_
 | refine te ?_
 | (refine idB ?_;refine bh rfl ?_)
 | refine W_skip ?_
 | refine W_block ?_
 | refine W_exit ?_
 | refine sn ?_
 | (refine idA ?_;refine m_var rfl rfl rfl rfl rfl rfl rfl ?_)
        all_goals first
          | (exfalso;rename_i hh;simp only at hh;omega)
          | exact ret0 (.inr rfl) rfl rfl hIi
          | skip
    · refine AC.of_body Tryz.func98 Tryz.ntmps98 rfl rfl rfl ?_
      repeat' first
 | (apply p1 (hd:=rfl);case hop=>first|(apply D_move;rfl)|(apply D_assign;rfl)|exact D_peE rfl rfl|(apply D_pc h1;rfl;exact .same rfl .nil)|(apply D_load1;rfl)|(apply D_ext;rfl;rfl))
 | refine W_seq ?_
 | refine W_region ?_
 | (refine idC ?_;refine c0 rfl ?_)
 | refine WL_nil ?_
 | refine tn ?_
 | refine W_skip ?_
 | refine W_block ?_
 | refine W_label ?_
 | refine W_scope ?_
 | (refine idW ?_;refine W_draw0 rfl ?_)
 | (apply d1 (hd:=rfl);case hop=>first|(apply D_move;rfl)|exact D_nilE rfl|(apply D_pc h2;rfl;exact .same rfl (.same rfl (.same rfl (.same rfl .nil))))|(apply D_load1;rfl)|(apply D_fld;rfl)|(apply D_lenM;rfl)|(apply D_ixPE;rfl;rfl;all_goals first|omega|((repeat rw [w64 _ (by omega) (by omega)]);omega)|decide))
 | (refine WD_nil (by first|decide +kernel|kernel_rfl|rfl) ?_)
      refine W_loopL (X:=Nat × List AObj) (fun c=>[(0,.sc (.func (.yield l) #[] #[])),(3,.ep [.sc (.int .i64 4)]),(26,.sl none 2 (E.map fun d=>[bsA (dkeyB ((4 : Nat) : Int) d),bsA []])),(27,.sc (.int .i64 (E.length : Int))),(28,.sc (.int .i64 (c.1 : Int)))]) (fun c=>c.2)
        (fun c=>c.1 ≤ E.length ∧ I c.1 c.2) (fun c=>E.length - c.1) (0,h0) ⟨Nat.zero_le _,hI⟩ ⟨rfl,rfl,rfl,ieq (by simp),rfl,trivial⟩ rfl ?_
      rintro ⟨i,h⟩ ⟨hi,hIi⟩
      simp only at hi hIi
      by_cases hil : i < E.length
      · have hkr:=hkE (E[i]'hil) (List.getElem_mem hil)
        have hrd:=dread_pc ((4 : Nat) : Int) (dkeyB ((4 : Nat) : Int) (E[i]'hil)) (by have:=dkey_len ((4 : Nat) : Int) (E[i]'hil);omega)
        obtain ⟨k1,k2⟩:=key_read hkr.2 hkr.1
        rw [k1,k2] at hrd
        have hyi:=hy i hil h hIi
        repeat' first
 | (apply p1 (hd:=rfl);case hop=>first|(apply D_move;rfl)|(apply D_assign;rfl)|(apply D_pc hrd;rfl;exact .same rfl (.same rfl .nil))|exact D_sc (D_not rfl) hnT|(apply D_load1;rfl)|(apply D_fld;rfl)|(apply D_pickT;rfl;rfl)|(apply D_pickF;rfl;rfl)|(apply D_int;rfl;rfl;rfl)|(apply D_ext;rfl;rfl)|(apply D_loadW;rfl;rfl)|(apply D_idxAn;rfl;rfl;(first|omega|(simp;done))))
 | refine W_seq ?_
 | refine W_region ?_
 | (refine idC ?_;first|refine c1 rfl ?_|refine c0 rfl ?_|refine cs rfl (fun _=>?_) (fun _=>?_))
 | refine WL_nil ?_
 | (refine idG ?_;first|refine g0f rfl rfl rfl ?_|refine gr rfl rfl ?_|refine gs rfl rfl (fun _=>?_) (fun _=>?_))
 | refine tn ?_
 | refine bn ?_
 | refine te ?_
 | (refine idB ?_;first|refine bh rfl ?_|refine bm rfl ?_)
 | refine W_skip ?_
 | refine W_block ?_
 | refine W_exit ?_
 | refine sn ?_
 | (refine idA ?_;refine m_var rfl rfl rfl rfl rfl rfl rfl ?_)
 | (refine m_yield rfl rfl rfl hyi ?_;rintro b h' ⟨rfl,hnx⟩)
        all_goals first
          | contradiction
          | (exfalso;rename_i hh;simp only at hh;omega)
          | exact ⟨rfl,(i + 1,h'),⟨hil,hnx⟩,by show E.length - (i + 1) < E.length - i;omega,⟨rfl,rfl,rfl,rfl,ieq (wsucc i (by omega)),trivial⟩,rfl⟩
          | skip
      · have e : i = E.length:=by omega
        subst e
        repeat' first
 | (apply p1 (hd:=rfl);case hop=>first|(apply D_load1;rfl)|(apply D_fld;rfl)|(apply D_int;rfl;rfl;rfl)|(apply D_loadW;rfl;rfl)|(apply D_idxAn;rfl;rfl;(first|omega|(simp;done))))
 | refine W_seq ?_
 | refine W_region ?_
 | (refine idC ?_;refine cs rfl (fun _=>?_) (fun _=>?_))
 | refine WL_nil ?_
 | refine tn ?_
 | refine te ?_
 | (refine idB ?_;refine bh rfl ?_)
 | refine W_skip ?_
 | refine W_block ?_
 | refine W_exit ?_
 | refine sn ?_
 | (refine idA ?_;refine m_var rfl rfl rfl rfl rfl rfl rfl ?_)
        all_goals first
          | (exfalso;rename_i hh;simp only at hh;omega)
          | exact ret0 (.inr rfl) rfl rfl hIi
          | skip
end Go.Proofs

namespace Go.Proofs
open Go.AL Go.Sort
attribute [local irreducible] Go.AL.W Go.AL.WL Go.AL.WD Go.AL.POp Go.AL.PPOp Go.AL.POpS Go.AL.PC Go.AL.AC Go.AL.YW Go.AL.Ret Go.AL.Le Go.AL.thn Go.AL.inBlk Go.AL.scp
theorem preL_len (o : Int) (b : List UInt8) (L : List Dat) : (preL o b L).length ≤ L.length:=Nat.le_trans (List.length_filter_le _ _) (dsortL_len o L)
end Go.Proofs
