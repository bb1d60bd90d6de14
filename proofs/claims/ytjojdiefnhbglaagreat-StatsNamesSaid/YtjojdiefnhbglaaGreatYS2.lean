/- Contracts of stats' functions: what is counted of one attribute's datoms. -/
import Derived.Test.YtjojdiefnhbglaaGreatYS1
set_option linter.all false
namespace Go.Proofs
open Go.AL Go.Sort
attribute [local irreducible] Go.AL.W Go.AL.WL Go.AL.WD Go.AL.POp Go.AL.PPOp Go.AL.POpS Go.AL.PC Go.AL.AC Go.AL.YW Go.AL.Ret Go.AL.Le Go.AL.thn Go.AL.inBlk Go.AL.scp
structure Att where
  a : Int
  n : Int
  ad : Int
  en : Int
  vn : Int
  fn : Int
  lo : Val
  hi : Val
abbrev atC (x : Att) : List AV:=[.sc (.int .i64 x.a),.sc (.int .i64 x.n),.sc (.int .i64 x.ad),.sc (.int .i64 x.en),.sc (.int .i64 x.vn),.sc (.int .i64 x.fn),.sc (.int .i64 x.lo.kind),.sc (.int .i64 x.lo.n),str x.lo.s,.sc (.int .i64 x.hi.kind),.sc (.int .i64 x.hi.n),str x.hi.s]
abbrev eAt (x : Att) : AV:=.ag (atC x)
def cntM (m : List (Int × Int)) (k : Int) : List (Int × Int):=putM k (IntKind.i64.wrap (getM k m + 1)) m
theorem putM_keys {κ : Type} [DecidableEq κ] (a : κ) (v : Int) : ∀ es : List (κ × Int),(putM a v es).map Prod.fst = if a ∈ es.map Prod.fst then es.map Prod.fst else es.map Prod.fst ++ [a]
  | []=>by simp [putM]
  | p :: l=>by
    simp only [putM,List.map_cons,List.mem_cons]
    by_cases h : a = p.1
    · rw [if_pos h,if_pos (.inl h)];simp [h]
    · rw [if_neg h,List.map_cons,putM_keys a v l]
      by_cases h2 : a ∈ l.map Prod.fst
      · rw [if_pos h2,if_pos (.inr h2)]
      · rw [if_neg h2,if_neg (by rintro (e|e);exact h e;exact h2 e)];rfl
theorem cntM_keys (m : List (Int × Int)) (k x : Int) : x ∈ (cntM m k).map Prod.fst ↔ x ∈ m.map Prod.fst ∨ x = k:=by
  unfold cntM
  rw [putM_keys]
  split
  · rename_i h
    exact ⟨.inl,fun h2=>h2.elim id fun e=>e ▸ h⟩
  · rw [List.mem_append,List.mem_singleton]
theorem cntM_nodup {m : List (Int × Int)} (h : (m.map Prod.fst).Nodup) (k : Int) : ((cntM m k).map Prod.fst).Nodup:=by
  unfold cntM
  rw [putM_keys]
  split
  · exact h
  · rename_i hk
    exact List.nodup_append.2 ⟨h,by simp,fun a ha b hb=>by rw [List.mem_singleton.1 hb];exact fun e=>hk (e ▸ ha)⟩
theorem cntM_fold : ∀ (l : List Int) (m : List (Int × Int)),(m.map Prod.fst).Nodup → ((l.foldl cntM m).map Prod.fst).Nodup ∧ ∀ x,x ∈ (l.foldl cntM m).map Prod.fst ↔ x ∈ m.map Prod.fst ∨ x ∈ l
  | [],m,h=>⟨h,fun x=>by simp⟩
  | k :: l,m,h=>by
    obtain ⟨a,b⟩:=cntM_fold l (cntM m k) (cntM_nodup h k)
    refine ⟨a,fun x=>?_⟩
    rw [List.foldl_cons,b,cntM_keys,List.mem_cons,or_assoc]
theorem cntM_len (l : List Int) : (l.foldl cntM []).length = (insL cmpI l).length:=by
  obtain ⟨a,b⟩:=cntM_fold l [] (by simp)
  have h1 : ((l.foldl cntM []).map Prod.fst).Perm (insL cmpI l):=by
    refine (List.perm_ext_iff_of_nodup a ?_).2 fun x=>?_
    · exact (insI_rise l).imp fun h e=>by omega
    · rw [b,insI_mem];simp
  have:=h1.length_eq
  rwa [List.length_map] at this
theorem getM_put {κ : Type} [DecidableEq κ] (a b : κ) (v : Int) : ∀ es : List (κ × Int),getM b (putM a v es) = if b = a then v else getM b es
  | []=>by simp only [putM,getM]
  | p :: l=>by
    simp only [putM]
    by_cases h : a = p.1
    · rw [if_pos h]
      simp only [getM]
      by_cases h2 : b = a
      · rw [if_pos h2,if_pos h2]
      · rw [if_neg h2,if_neg h2,if_neg (fun e=>h2 (e.trans h.symm))]
    · rw [if_neg h]
      simp only [getM]
      by_cases h2 : b = p.1
      · rw [if_pos h2,if_pos h2,if_neg (fun e=>h (e.symm.trans h2))]
      · rw [if_neg h2,if_neg h2,getM_put a b v l]
theorem cntM_get (k : Int) : ∀ (l : List Int) (m : List (Int × Int)),0 ≤ getM k m → getM k m + l.length < 9223372036854775807 → getM k (l.foldl cntM m) = getM k m + ((l.filter fun x=>decide (x = k)).length : Int)
  | [],m,_,_=>by simp
  | x :: l,m,h0,h=>by
    simp only [List.length_cons] at h
    have e : getM k (cntM m x) = getM k m + (if x = k then 1 else 0):=by
      unfold cntM
      rw [getM_put]
      by_cases h2 : k = x
      · subst h2
        rw [if_pos rfl,if_pos rfl,w64 _ (by omega) (by omega)]
      · rw [if_neg h2,if_neg (fun e=>h2 e.symm)];omega
    rw [List.foldl_cons,cntM_get k l _ (by rw [e];split <;> omega) (by rw [e];split <;> omega),e,List.filter_cons]
    by_cases h2 : x = k
    · simp [h2];omega
    · simp [h2]
def addN (l : List Dat) : Nat:=(l.filter fun d=>d.add).length
theorem addN_take (l : List Dat) (i : Nat) (h : i < l.length) : addN (l.take (i + 1)) = addN (l.take i) + (if l[i].add = true then 1 else 0):=by
  unfold addN
  rw [List.take_succ_eq_append_getElem h,List.filter_append,List.length_append,List.filter_cons]
  by_cases hb : l[i].add = true <;> simp [hb]
noncomputable def valS (l : List Dat) : List Val:=sortC cmpV (l.map Dat.v)
noncomputable def oneA (l : List Dat) : Att:=⟨(l.headD dat0).a,l.length,addN l,(insL cmpI (l.map Dat.e)).length,(valS l).length,0,(valS l).headD val0,(valS l).getLastD val0⟩
theorem valS_ne {l : List Dat} (h : 0 < l.length) : 0 < (valS l).length:=by
  obtain ⟨d,hd⟩:=List.exists_mem_of_length_pos h
  have : d.v ∈ valS l:=(sortC_mem _ _ _).2 (List.mem_map.2 ⟨d,hd,rfl⟩)
  exact List.length_pos_of_mem this
theorem valS_len (l : List Dat) : (valS l).length ≤ l.length:=by
  have:=sortC_len cmpV (l.map Dat.v)
  rwa [List.length_map] at this
theorem headD_at {α : Type} (l : List α) (z : α) (h : 0 < l.length) : l.headD z = l[0]:=by
  cases l with
  | nil=>simp at h
  | cons x t=>rfl
theorem lastD_at {α : Type} (l : List α) (z : α) (h : 0 < l.length) : l.getLastD z = l[l.length - 1]:=by
  rw [List.getLastD_eq_getLast?,List.getLast?_eq_getElem?,List.getElem?_eq_getElem (by omega)];rfl
abbrev outC (x : Int) (n ad : Int) : List AV:=[.sc (.int .i64 x),.sc (.int .i64 n),.sc (.int .i64 ad),.sc (.int .i64 0),.sc (.int .i64 0),.sc (.int .i64 0),.sc (.int .i64 0),.sc (.int .i64 0),str [],.sc (.int .i64 0),.sc (.int .i64 0),str []]
set_option maxHeartbeats 32000000 in
theorem one_pc [GlobF Tryz.prog] (l : List Dat) (h0 : 0 < l.length) (hl : l.length < 1048576) : PC Tryz.prog 63 [sl9 l] (eAt (oneA l)):=by
  have hv:=vsort_pc (l.map Dat.v) (by rw [List.length_map];omega)
  have hvl:=valS_len l
  have hvp:=valS_ne h0
  have hvq : (valS l).length - 1 < (valS l).length:=by omega
  have e1:=cntM_len (l.map Dat.e)
  have e2 : oneA l = ⟨(l[0]'h0).a,l.length,addN l,((l.map Dat.e).foldl cntM []).length,(valS l).length,0,(valS l)[0]'hvp,(valS l)[(valS l).length - 1]'hvq⟩:=by
    unfold oneA
    rw [headD_at l dat0 h0,headD_at _ val0 hvp,lastD_at _ val0 hvp,e1]
  rw [e2]
  rw [show sortC cmpV (l.map Dat.v) = valS l from rfl] at hv
  refine PC.of_body Tryz.func63 Tryz.ntmps63 rfl rfl rfl ?_
  repeat' first
 | (refine m_alloc (d:=3) rfl ?_)
 | (refine m_mkMap rfl ?_;intro b)
 | (apply p1 (hd:=rfl);case hop=>first|(apply D_move;rfl)|(apply D_assign;rfl)|(apply D_load1;rfl)|(apply D_fld;rfl)|(apply D_lenM;rfl)|(apply D_idxAn;rfl;rfl;(first|omega|(simp;done)))|exact D_build rfl)
 | refine W_seq ?_
 | refine W_region ?_
 | refine WL_nil ?_
 | refine tn ?_
 | refine W_block ?_
 | (refine idA ?_;refine m_alloc rfl ?_)
 | (refine idS ?_;refine pS (S_store rfl rfl rfl rfl rfl rfl rfl) ?_)
  refine W_adopt 5 3 46 rfl ?_
  refine W_loopL (X:=Nat) (fun i=>[(0,sl9 l),(2,.bp 0 0),(3,.bp 1 0),(4,.sc (.map (some b))),(5,.sl (some 3) 3 ((l.take i).map fun d=>vC d.v)),(16,sl9 l),(17,.sc (.int .i64 (l.length : Int))),(18,.sc (.int .i64 (i : Int)))]) (fun i=>[.cells (outC 0 0 0),.cells (outC (l[0]'h0).a l.length (addN (l.take i))),mapA kvI b (((l.take i).map Dat.e).foldl cntM []),.tail ((l.take i).map fun d=>vC d.v).length 3 46])
    (fun i=>i ≤ l.length) (fun i=>l.length - i) 0 (Nat.zero_le _) ⟨rfl,rfl,rfl,rfl,rfl,rfl,rfl,rfl,trivial⟩ rfl ?_
  intro i hi
  have hal : addN (l.take i) ≤ i:=Nat.le_trans (List.length_filter_le _ _) (by rw [List.length_take];omega)
  by_cases hil : i < l.length
  · have hsa:=addN_take l i hil
    have hsm : ((l.take (i + 1)).map Dat.e).foldl cntM [] = cntM (((l.take i).map Dat.e).foldl cntM []) (l[i]'hil).e:=by
      rw [List.take_succ_eq_append_getElem hil,List.map_append,List.foldl_append];rfl
    have hsv : (l.take (i + 1)).map (fun d=>vC d.v) = (l.take i).map (fun d=>vC d.v) ++ [vC (l[i]'hil).v]:=by
      rw [List.take_succ_eq_append_getElem hil,List.map_append];rfl
    have hvi : ((l.take i).map fun d=>vC d.v).length = i:=by rw [List.length_map,List.length_take];omega
    generalize (l.take i).map (fun d=>vC d.v) = VV at *
    generalize ((l.take i).map Dat.e).foldl cntM [] = MM at *
    generalize addN (l.take i) = AA at *
    have hwm : IntKind.i64.wrap ((AA : Int) + 1) = ((AA + 1 : Nat) : Int):=wsucc AA (by omega)
    repeat' first
 | (refine p1L (D_mapG (kv:=kvI) rfl rfl (r:=2) rfl) rfl ?_)
 | (refine pS (S_mapU (kv:=kvI) rfl rfl rfl (r:=2) rfl) ?_)
 | (apply p1 (hd:=rfl);case hop=>first|(apply D_move;rfl)|(apply D_assign;rfl)|(apply D_load1;rfl)|(apply D_fld;rfl)|(apply D_int;rfl;rfl;rfl)|(apply D_loadW;rfl;rfl)|(apply D_loadA;rfl;rfl)|(apply D_idxAn;rfl;rfl;(first|omega|(simp;done)))|(apply D_lit;rfl;rfl;rfl;rfl)|exact D_fldB rfl)
 | refine W_seq ?_
 | refine W_region ?_
 | (refine idC ?_;refine cs rfl (fun _=>?_) (fun _=>?_))
 | refine WL_nil ?_
 | refine tn ?_
 | refine bn ?_
 | refine te ?_
 | (refine idB ?_;refine bh rfl ?_)
 | refine W_skip ?_
 | refine W_block ?_
 | refine W_exit ?_
 | (refine idLd ?_;refine p1L (D_loadB1 rfl rfl rfl) rfl ?_)
 | (refine idA ?_;refine m_var rfl rfl rfl rfl rfl rfl rfl ?_)
 | (refine idS ?_;refine pS (S_store rfl rfl rfl rfl rfl rfl rfl) ?_)
 | (refine idAp ?_;refine m_appB rfl rfl rfl (by first|rfl|assumption|exact get_set (by assumption)|exact get_set (get_set (by assumption))|exact get_set (get_set (get_set (by assumption)))|((repeat first|assumption|exact get_last|(refine get_last2 ?_;focus (simp;done))|apply get_set|apply get_app|(apply get_ne;focus omega));done)) ?_ rfl rfl ?_ ?_ rfl ?_;(first|rfl|focus (simp only [List.length_map,List.length_append,List.length_cons,List.length_nil];omega)|focus (simp;done)|focus (simp;omega));(first|focus (simp only [List.length_map,List.length_append,List.length_cons,List.length_nil];omega)|focus (simp;done)|focus (simp;omega));(first|focus (simp only [List.length_map,List.length_append,List.length_cons,List.length_nil];omega)|focus (simp;done)|focus (simp;omega)))
    all_goals first
      | contradiction
      | (exfalso;omega)
      | (rw [if_pos (by assumption)] at hsa
         refine ⟨rfl,i + 1,by omega,by omega,⟨rfl,rfl,rfl,rfl,?_,rfl,rfl,ieq (wsucc i (by omega)),trivial⟩,?_⟩
         · rw [hsv];rfl
         · rw [hsa,hsm,hsv,← hwm,List.length_append];rfl)
      | (rw [if_neg (by rw [(by assumption : (l[i]'hil).add = false)];decide),Nat.add_zero] at hsa
         refine ⟨rfl,i + 1,by omega,by omega,⟨rfl,rfl,rfl,rfl,?_,rfl,rfl,ieq (wsucc i (by omega)),trivial⟩,?_⟩
         · rw [hsv];rfl
         · rw [hsa,hsm,hsv,List.length_append];rfl)
      | skip
  · have e : i = l.length:=by omega
    subst e
    rw [List.take_length] at *
    rw [show (l.map fun d=>vC d.v) = (l.map Dat.v).map vC by rw [List.map_map];rfl]
    clear e2 e1
    generalize valS l = VS at *
    generalize (l.map Dat.e).foldl cntM [] = MM at *
    generalize addN l = AA at *
    have hsub : Value.int .i64 (IntKind.i64.wrap ((VS.length : Int) - 1)) = .int .i64 ((VS.length - 1 : Nat) : Int):=by rw [w64 _ (by omega) (by omega)];congr 1;omega
    repeat' first
 | (refine p1L (D_mapL (kv:=kvI) rfl (r:=2) rfl) rfl ?_)
 | (apply p1 (hd:=rfl);case hop=>first|(apply D_move;rfl)|(apply D_assign;rfl)|(apply D_pc hv;rfl;exact .tok rfl .nil)|(apply D_load1;rfl)|(apply D_fld;rfl)|(apply D_int;rfl;rfl;rfl)|(apply D_lenM;rfl)|(apply D_loadW;rfl;rfl)|(apply D_idxAn;rfl;rfl;(first|omega|(simp;done)))|exact D_fldB rfl)
 | refine W_seq ?_
 | refine W_region ?_
 | (refine idC ?_;refine cs rfl (fun _=>?_) (fun _=>?_))
 | refine WL_nil ?_
 | refine tn ?_
 | refine te ?_
 | (refine idB ?_;refine bh rfl ?_)
 | refine W_skip ?_
 | refine W_block ?_
 | refine W_exit ?_
 | refine W_ret ?_
 | (refine idR ?_;first|refine rL1 rfl (by first|exact trivial|exact ⟨rfl,trivial⟩) (by first|exact ResO.tmp rfl|exact ResO.cellBA rfl rfl rfl|exact ResO.cellB1 rfl rfl rfl|exact ResO.cellEA rfl rfl|exact ResO.cellE1 rfl) ?_)
 | (refine idLd ?_;first|refine p1L (D_loadB1 rfl rfl rfl) rfl ?_|refine p1L (D_loadBA rfl rfl rfl) rfl ?_)
 | (refine idA ?_;refine m_var rfl rfl rfl rfl rfl rfl rfl ?_)
 | (refine idS ?_;refine pS (S_store rfl rfl rfl rfl rfl rfl rfl) ?_)
 | (refine idW ?_;refine W_draw0 rfl ?_)
 | (apply d1 (hd:=rfl);case hop=>first|(apply D_move;rfl)|exact D_sc (D_int rfl rfl rfl) hsub|(apply D_lenM;rfl)|(apply D_loadW;rfl;rfl)|(apply D_idxAn;rfl;rfl;(first|omega|(simp;done)))|exact D_fldB rfl)
 | (refine idDn ?_;refine dS (S_store rfl rfl rfl rfl rfl rfl rfl) rfl ?_)
 | (refine WD_nil (by first|decide +kernel|kernel_rfl|rfl) ?_)
    all_goals first
      | contradiction
      | (exfalso;omega)
      | exact Le.of_eq rfl
      | skip
end Go.Proofs

namespace Go.Proofs
open Go.AL Go.Sort
attribute [local irreducible] Go.AL.W Go.AL.WL Go.AL.WD Go.AL.POp Go.AL.PPOp Go.AL.POpS Go.AL.PC Go.AL.AC Go.AL.YW Go.AL.Ret Go.AL.Le Go.AL.thn Go.AL.inBlk Go.AL.scp
noncomputable def attG (F : List Fac) (g : List Dat) : Att:={ oneA g with fn:=getM (g.headD dat0).a ((F.map Fac.a).foldl cntM []) }
noncomputable def attsP (l : List Dat) (F : List Fac) : List Att:=(grpL grA (dsortL 2 l)).map (attG F)
noncomputable def attsE (l : List Dat) : Int:=if dP (allD l) then (if (foldR l).isSome then 0 else 60) else 40
noncomputable def attsL (l : List Dat) : List Att:=if attsE l = 0 then attsP l ((foldR l).getD []) else []
abbrev HA (b : Nat) (M : List (Int × Int)) (o : List Att) (X1 X2 : AObj) : List AObj:=[mapA kvI b M,.cells [.sl (some 2) 12 (o.map atC)],.tail o.length 12 71,X1,X2]
theorem HA_snoc (b : Nat) (M : List (Int × Int)) (o : List Att) (x : Att) (X1 X2 : AObj) : HA b M (o ++ [x]) X1 X2 = [mapA kvI b M,.cells [.sl (some 2) 12 (o.map atC ++ [atC x])],.tail ((o.map atC).length + 1) 12 71,X1,X2]:=by simp [HA]
set_option maxHeartbeats 32000000 in
theorem attrs_pc [GlobF Tryz.prog] (l : List Dat) (hl : l.length < 1048576) (hs : ∀ d,d ∈ l → d.v.s.length < 9223372036854775808) (hrg : rgD l) : PC Tryz.prog 26 [sl9 l] (.tu [.sl none 12 ((attsL l).map atC),.sc (.int .i64 (attsE l))]):=by
  have hsd:=ssorted_pc 2 l (by omega) hs
  have hf:=fold_pc l (by omega) hs hrg
  have hfl:=foldR_len l
  have hL : attsL l = if attsE l = 0 then attsP l ((foldR l).getD []) else []:=rfl
  have hE : attsE l = if dP (allD l) then (if (foldR l).isSome then 0 else 60) else 40:=rfl
  rw [hL,hE]
  unfold sortS at hsd
  have hdl:=dsortL_len 2 l
  by_cases ha : allD l
  rotate_left 1
  · rw [← dP_F ha] at hsd ⊢
    rw [if_neg (by decide),if_neg (by decide)] at hsd
    refine PC.of_body Tryz.func26 Tryz.ntmps26 rfl rfl rfl ?_
    repeat' first
 | (apply p1 (hd:=rfl);case hop=>first|(apply D_move;rfl)|(apply D_assign;rfl)|(apply D_pc hsd;rfl;exact .same rfl (.same rfl .nil))|(apply D_int;rfl;rfl;rfl)|(apply D_ext;rfl;rfl))
 | refine W_seq ?_
 | refine W_region ?_
 | (refine idC ?_;refine cs rfl (fun _=>?_) (fun _=>?_))
 | refine WL_nil ?_
 | refine tn ?_
 | refine tr ?_
 | refine W_skip ?_
 | refine W_ret ?_
 | (refine idR ?_;refine ret2 rfl rfl rfl rfl ?_ ?_)
 | (refine Le.int ?_)
    all_goals first|contradiction|exact Le.nil rfl|rfl|skip
  rw [← dP_T ha] at hsd ⊢
  rw [if_pos rfl,if_pos rfl] at hsd
  cases hF : foldR l with
  | none =>
    rw [hF] at hf
    refine PC.of_body Tryz.func26 Tryz.ntmps26 rfl rfl rfl ?_
    repeat' first
 | (apply p1 (hd:=rfl);case hop=>first|(apply D_move;rfl)|(apply D_assign;rfl)|(apply D_pc hsd;rfl;exact .same rfl (.same rfl .nil))|(apply D_pc hf;rfl;exact .same rfl .nil)|(apply D_int;rfl;rfl;rfl)|(apply D_ext;rfl;rfl))
 | refine W_seq ?_
 | refine W_region ?_
 | (refine idC ?_;refine cs rfl (fun _=>?_) (fun _=>?_))
 | refine WL_nil ?_
 | refine tn ?_
 | refine tr ?_
 | refine W_skip ?_
 | refine W_ret ?_
 | (refine idR ?_;refine ret2 rfl rfl rfl rfl ?_ ?_)
 | (refine Le.int ?_)
    all_goals first|contradiction|exact Le.nil rfl|rfl|skip
  | some F =>
    rw [hF] at hf hfl
    simp only [Option.getD_some] at hf hfl
    simp only [Option.getD_some,Option.isSome_some,if_true]
    unfold attsP
    generalize dsortL 2 l = D at *
    refine PC.of_body Tryz.func26 Tryz.ntmps26 rfl rfl rfl ?_
    repeat' first
 | (refine m_mkMap rfl ?_;intro b)
 | (apply p1 (hd:=rfl);case hop=>first|(apply D_move;rfl)|(apply D_assign;rfl)|(apply D_pc hsd;rfl;exact .same rfl (.same rfl .nil))|(apply D_pc hf;rfl;exact .same rfl .nil)|(apply D_int;rfl;rfl;rfl)|(apply D_lenM;rfl)|(apply D_ext;rfl;rfl))
 | refine W_seq ?_
 | refine W_region ?_
 | (refine idC ?_;refine cs rfl (fun _=>?_) (fun _=>?_))
 | refine WL_nil ?_
 | refine tn ?_
 | refine tr ?_
 | refine W_skip ?_
 | refine W_block ?_
 | refine W_ret ?_
 | (refine idR ?_;refine ret2 rfl rfl rfl rfl ?_ ?_)
 | (refine idA ?_;refine m_var rfl rfl rfl rfl rfl rfl rfl ?_)
 | (refine Le.int ?_)
    all_goals try contradiction
    refine W_loopL (X:=Nat) (fun i=>[(4,sl9 D),(7,.ep [.sc (.map (some b))]),(29,sl6 F),(30,.sc (.int .i64 (F.length : Int))),(31,.sc (.int .i64 (i : Int)))]) (fun i=>[mapA kvI b (((F.take i).map Fac.a).foldl cntM [])])
      (fun i=>i ≤ F.length) (fun i=>F.length - i) 0 (Nat.zero_le _) ⟨rfl,rfl,rfl,rfl,rfl,trivial⟩ rfl ?_
    intro i hi
    by_cases hil : i < F.length
    · have hsm : ((F.take (i + 1)).map Fac.a).foldl cntM [] = cntM (((F.take i).map Fac.a).foldl cntM []) (F[i]'hil).a:=by
        rw [List.take_succ_eq_append_getElem hil,List.map_append,List.foldl_append];rfl
      generalize ((F.take i).map Fac.a).foldl cntM [] = MM at *
      repeat' first
 | (refine p1L (D_mapG (kv:=kvI) rfl rfl (r:=0) rfl) rfl ?_)
 | (refine pS (S_mapU (kv:=kvI) rfl rfl rfl (r:=0) rfl) ?_)
 | (apply p1 (hd:=rfl);case hop=>first|(apply D_move;rfl)|(apply D_load1;rfl)|(apply D_fld;rfl)|(apply D_int;rfl;rfl;rfl)|(apply D_loadW;rfl;rfl)|(apply D_idxAn;rfl;rfl;(first|omega|(simp;done))))
 | refine W_seq ?_
 | refine W_region ?_
 | (refine idC ?_;refine cs rfl (fun _=>?_) (fun _=>?_))
 | refine WL_nil ?_
 | refine tn ?_
 | refine bn ?_
 | refine te ?_
 | (refine idB ?_;refine bh rfl ?_)
 | refine W_skip ?_
 | refine W_block ?_
 | refine W_exit ?_
 | (refine idA ?_;first|refine m_var rfl rfl rfl rfl rfl rfl rfl ?_|refine m_alloc rfl ?_)
      all_goals first
        | contradiction
        | (exfalso;omega)
        | (refine ⟨rfl,i + 1,by omega,by omega,⟨rfl,rfl,rfl,rfl,ieq (wsucc i (by omega)),trivial⟩,?_⟩
           rw [hsm];rfl)
        | skip
    · have e : i = F.length:=by omega
      subst e
      rw [List.take_length] at *
      have hG : ∀ g,attG F g = { oneA g with fn:=getM (g.headD dat0).a ((F.map Fac.a).foldl cntM []) }:=fun g=>rfl
      generalize (F.map Fac.a).foldl cntM [] = MM at *
      repeat' first
 | (apply p1 (hd:=rfl);case hop=>first|(apply D_move;rfl)|(apply D_pc (sgroups_pc D);rfl;exact .same rfl .nil)|(apply D_load1;rfl)|(apply D_fld;rfl)|(apply D_int;rfl;rfl;rfl)|(apply D_loadW;rfl;rfl)|(apply D_idxAn;rfl;rfl;(first|omega|(simp;done))))
 | refine W_seq ?_
 | refine W_region ?_
 | (refine idC ?_;refine cs rfl (fun _=>?_) (fun _=>?_))
 | refine WL_nil ?_
 | refine tn ?_
 | refine te ?_
 | (refine idB ?_;refine bh rfl ?_)
 | refine W_skip ?_
 | refine W_block ?_
 | refine W_exit ?_
 | (refine idA ?_;first|refine m_var rfl rfl rfl rfl rfl rfl rfl ?_|refine m_alloc rfl ?_)
      all_goals try (exfalso;omega)
      refine W_adoptC 1 0 12 71 rfl rfl ?_
      refine W_rangeX (.inl rfl) fun l1 X hX=>?_
      refine AC.mono (sgroups1_ac D l1 (fun r h=>∃ o ex,h = HA b MM o (.raw (.deferred (some []))) (X .ready none) ++ ex ∧ (grpL grA D).map (attG F) = o ++ (grpL grA r).map (attG F) ∧ o.length + r.length ≤ D.length ∧ ∃ k,r = D.drop k) (by omega) ⟨[],[],rfl,rfl,by simp,0,rfl⟩ ?_) ?_
      · rintro r h n ⟨o,ex,rfl,hJ,hlen,k,hk⟩ hn0 hn1 hg
        refine YW.round (r:=4) (ps:=[43]) ((show _ = some (X .ready none) from rfl).trans (congrArg some (hX .ready none))) rfl rfl ?_
        repeat' first
 | (apply p1 (hd:=rfl);case hop=>first|(apply D_assign;rfl))
 | refine W_region ?_
 | (refine WL_nil ?_)
        refine ⟨rfl,(show _ = some (X .ready none) from rfl).trans (congrArg some (hX .ready none)),?_⟩
        refine W_hq (h':=HA b MM o (.raw (.deferred (some []))) (X .busy none) ++ ex) (by rw [hX .busy none];rfl) ?_
        generalize hgd : r.take n = g at *
        have hgl : g.length = n:=by rw [← hgd];simp;omega
        have hon:=one_pc g (by omega) (by omega)
        rw [hg,List.map_cons,hG,headD_at g dat0 (by omega)] at hJ
        have hoa : (oneA g).a = (g[0]'(by omega)).a:=by unfold oneA;exact congrArg Dat.a (headD_at g dat0 (by omega))
        have hof : (oneA g).fn = 0:=rfl
        rw [← hoa] at hJ
        generalize oneA g = x at *
        repeat' first
 | (refine m_alloc (d:=12) rfl ?_)
 | (refine p1L (D_mapG (kv:=kvI) rfl rfl (r:=0) rfl) rfl ?_)
 | (apply p1 (hd:=rfl);case hop=>first|(apply D_move;rfl)|(apply D_pc hon;rfl;exact .same rfl .nil)|(apply D_load1;rfl)|(apply D_lit;rfl;rfl;rfl;rfl)|exact D_fldB rfl)
 | refine W_seq ?_
 | refine W_region ?_
 | refine WL_nil ?_
 | refine tn ?_
 | refine bn ?_
 | refine W_block ?_
 | (refine idLd ?_;first|refine p1L (D_loadB1 rfl rfl rfl) rfl ?_|refine p1L (D_loadB1 rfl (by (repeat first|assumption|exact get_last|(refine get_last2 ?_;focus (simp;done))|apply get_set|apply get_app|(apply get_ne;focus omega)|(apply get_ne;focus (simp only [List.length_set,List.length_append,List.length_cons,List.length_nil];omega)));done) (by rfl)) rfl ?_|refine p1L (D_loadBA rfl (by (repeat first|assumption|exact get_last|(refine get_last2 ?_;focus (simp;done))|apply get_set|apply get_app|(apply get_ne;focus omega)|(apply get_ne;focus (simp only [List.length_set,List.length_append,List.length_cons,List.length_nil];omega)));done) (by rfl)) rfl ?_)
 | (refine idS ?_;first|refine pS (S_store rfl rfl rfl rfl rfl rfl rfl) ?_|refine pS (S_store rfl rfl rfl (by (repeat first|assumption|exact get_last|(refine get_last2 ?_;focus (simp;done))|apply get_set|apply get_app|(apply get_ne;focus omega)|(apply get_ne;focus (simp only [List.length_set,List.length_append,List.length_cons,List.length_nil];omega)));done) (by rfl) (by rfl) (by rfl)) ?_)
 | (refine idAp ?_;refine m_appB rfl rfl rfl (by first|rfl|assumption|exact get_set (by assumption)|exact get_set (get_set (by assumption))|exact get_set (get_set (get_set (by assumption)))|((repeat first|assumption|exact get_last|(refine get_last2 ?_;focus (simp;done))|apply get_set|apply get_app|(apply get_ne;focus omega));done)) ?_ rfl rfl ?_ ?_ rfl ?_;(first|rfl|focus (simp only [List.length_map,List.length_append,List.length_cons,List.length_nil];omega)|focus (simp;done)|focus (simp;omega));(first|focus (simp only [List.length_map,List.length_append,List.length_cons,List.length_nil];omega)|focus (simp;done)|focus (simp;omega));(first|focus (simp only [List.length_map,List.length_append,List.length_cons,List.length_nil];omega)|focus (simp;done)|focus (simp;omega)))
        refine roundQ_hq (P:=Tryz.prog) (h':=HA b MM (o ++ [⟨x.a,x.n,x.ad,x.en,x.vn,getM x.a MM,x.lo,x.hi⟩]) (.raw (.deferred (some []))) (X .busy none) ++ (ex ++ [.cells (atC ⟨x.a,x.n,x.ad,x.en,x.vn,getM x.a MM,x.lo,x.hi⟩)])) (by rw [set_last,set_last,HA_snoc];rfl) ?_
        refine ⟨rfl,⟨_,_,(show _ = some (X .busy none) from rfl).trans (congrArg some (hX .busy none))⟩,rfl,?_⟩
        dsimp only
        rw [← hX .ready none]
        refine ⟨o ++ [⟨x.a,x.n,x.ad,x.en,x.vn,getM x.a MM,x.lo,x.hi⟩],ex ++ [.cells (atC ⟨x.a,x.n,x.ad,x.en,x.vn,getM x.a MM,x.lo,x.hi⟩)],rfl,by rw [hJ,List.append_assoc];rfl,?_,k + n,by rw [hk,List.drop_drop]⟩
        rw [List.length_append,List.length_singleton,List.length_drop];omega
      · rintro _ h' ⟨o,ex,rfl,hJ,_⟩
        rw [grpL_nil,List.map_nil,List.append_nil] at hJ
        refine ⟨_,_,(show _ = some (X .ready none) from rfl).trans (congrArg some (hX _ _)),by decide,?_⟩
        rw [hJ]
        repeat' first
 | (apply p1 (hd:=rfl);case hop=>first|(apply D_assign;rfl))
 | refine W_seq ?_
 | refine W_region ?_
 | refine WL_nil ?_
 | refine tn ?_
 | refine bn ?_
 | refine W_ret ?_
 | (refine idR ?_;first|refine rL2 rfl (by first|exact trivial|exact ⟨rfl,trivial⟩) (by first|exact ResO.tmp rfl|exact ResO.cellBA rfl rfl rfl|exact ResO.cellB1 rfl rfl rfl|exact ResO.cellEA rfl rfl|exact ResO.cellE1 rfl) (by first|exact ResO.tmp rfl|exact ResO.cellBA rfl rfl rfl|exact ResO.cellB1 rfl rfl rfl|exact ResO.cellEA rfl rfl|exact ResO.cellE1 rfl) ?_ ?_)
 | (refine idLd ?_;refine p1L (D_loadB1 rfl rfl rfl) rfl ?_)
 | (refine Le.int ?_)
        all_goals first|exact Le.tokq rfl|rfl|skip
end Go.Proofs
