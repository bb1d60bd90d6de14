/- Contracts of stats: what is counted by kinds of values; the document's too. -/
import Derived.Test.YtjojdiefnhbglaaGreatYF3
import Derived.Test.YtjojdiefnhbglaaGreatOps39
import Derived.Test.YtjojdiefnhbglaaGreatYIn5
import Derived.Test.YtjojdiefnhbglaaGreatYS5
set_option linter.all false
namespace Go.Proofs
open Go.AL Go.Sort
attribute [local irreducible] Go.AL.W Go.AL.WL Go.AL.WD Go.AL.POp Go.AL.PPOp Go.AL.POpS Go.AL.PC Go.AL.AC Go.AL.YW Go.AL.Ret Go.AL.Le Go.AL.thn Go.AL.inBlk Go.AL.scp
def kst (v : List Int) (i : Nat) : List Int:=v.set i (v.getD i 0 + 1)
def kindsL (l : List Dat) : List Int:=l.foldl (fun v d=>kst v d.v.kind.toNat) [0,0,0,0,0,0,0,0]
theorem kst_len (v : List Int) (i : Nat) : (kst v i).length = v.length:=by simp [kst]
theorem kinds_len (l : List Dat) : (kindsL l).length = 8:=by
  unfold kindsL
  suffices h : ∀ (m : List Dat) (v : List Int),v.length = 8 → (m.foldl (fun v d=>kst v d.v.kind.toNat) v).length = 8 from h l _ rfl
  intro m
  induction m with
  | nil=>intro v h;exact h
  | cons d m ih=>intro v h;exact ih _ (by rw [kst_len];exact h)
theorem kinds_take (l : List Dat) (i : Nat) (h : i < l.length) : kindsL (l.take (i + 1)) = kst (kindsL (l.take i)) l[i].v.kind.toNat:=by
  unfold kindsL;rw [List.take_succ_eq_append_getElem h,List.foldl_append];rfl
theorem kinds_bnd (l : List Dat) : ∀ i,0 ≤ (kindsL l).getD i 0 ∧ (kindsL l).getD i 0 ≤ l.length:=by
  unfold kindsL
  suffices h : ∀ (m : List Dat) (v : List Int) (n : Nat),(∀ i,0 ≤ v.getD i 0 ∧ v.getD i 0 ≤ n) → ∀ i,0 ≤ (m.foldl (fun v d=>kst v d.v.kind.toNat) v).getD i 0 ∧ (m.foldl (fun v d=>kst v d.v.kind.toNat) v).getD i 0 ≤ (n + m.length : Nat) by
    have:=h l [0,0,0,0,0,0,0,0] 0 (fun i=>by
      rcases i with _|_|_|_|_|_|_|_|i <;> simp)
    simpa using this
  intro m
  induction m with
  | nil=>intro v n h i;simpa using h i
  | cons d m ih =>
    intro v n h i
    have:=ih (kst v d.v.kind.toNat) (n + 1) (fun j=>by
      have h0:=h j
      unfold kst
      rw [List.getD_eq_getElem?_getD,List.getElem?_set]
      split
      · next e =>
        subst e
        have h1:=h d.v.kind.toNat
        split
        · simp only [Option.getD_some];omega
        · simp only [Option.getD_none];omega
      · rw [← List.getD_eq_getElem?_getD];omega) i
    simp only [List.length_cons,List.foldl_cons]
    refine ⟨this.1,Int.le_trans this.2 (by omega)⟩
theorem eight {v : List Int} (h : v.length = 8) : ∃ a b c d e f g i,v = [a,b,c,d,e,f,g,i]:=by
  rcases v with _ | ⟨a,_ | ⟨b,_ | ⟨c,_ | ⟨d,_ | ⟨e,_ | ⟨f,_ | ⟨g,_ | ⟨i,_ | ⟨k,v⟩⟩⟩⟩⟩⟩⟩⟩⟩ <;> simp at h
  exact ⟨_,_,_,_,_,_,_,_,rfl⟩
abbrev kC (v : List Int) : List AV:=v.map fun n=>.sc (.int .i64 n)
instance (v : List Int) : PurL (kC v):=⟨fun x hx=>by obtain ⟨n,_,rfl⟩:=List.mem_map.1 hx;exact Pur.h⟩
theorem kC_get {v : List Int} {i : Nat} (h : i < v.length) : (kC v)[i]? = some (.sc (.int .i64 (v.getD i 0))):=by
  rw [List.getElem?_map,List.getElem?_eq_getElem h,List.getD_eq_getElem?_getD,List.getElem?_eq_getElem h];rfl
theorem kC_set {v : List Int} {i : Nat} (h : i < v.length) : (kC v).take i ++ [.sc (.int .i64 (v.getD i 0 + 1))] ++ (kC v).drop (i + 1) = kC (kst v i):=by
  unfold kst kC
  rw [List.map_set,List.set_eq_take_append_cons_drop,if_pos (by simpa using h)]
  simp
theorem kind_rng {v : Val} (h : mayB v = true) : 1 ≤ v.kind ∧ v.kind ≤ 7:=by
  simp only [mayB,dP_t,MayP] at h
  omega
theorem sortS_kind {l : List Dat} {d : Dat} (h : d ∈ sortS 1 l) : 1 ≤ d.v.kind ∧ d.v.kind ≤ 7:=by
  unfold sortS at h
  split at h
  · next ha =>
    rw [dP_t] at ha
    exact kind_rng (ha d ((dsort_mem (by decide) l d).1 h).1).2.2.2.2.1
  · cases h
theorem sortS_len (o : Int) (l : List Dat) : (sortS o l).length ≤ l.length:=by
  unfold sortS
  split
  · exact dsortL_len o l
  · simp
set_option maxHeartbeats 16000000 in
theorem kinds_pc [GlobF Tryz.prog] (l : List Dat) (hl : l.length < 1048576) (hs : ∀ d,d ∈ l → d.v.s.length < 9223372036854775808) : PC Tryz.prog 34 [sl9 l] (.tu [.ag (kC (kindsL (sortS 1 l))),.sc (.int .i64 (if dP (allD l) then 0 else 40))]):=by
  have hsd:=ssorted_pc 1 l (by omega) hs
  have hk:=fun d=>sortS_kind (l:=l) (d:=d)
  have hDl:=sortS_len 1 l
  generalize sortS 1 l = D at *
  generalize (if dP (allD l) = true then (0 : Int) else 40) = E at *
  refine PC.of_body Tryz.func34 Tryz.ntmps34 rfl rfl rfl ?_
  repeat' first
 | (refine m_alloc (d:=2) rfl ?_)
 | (refine m_alloc (d:=4) rfl ?_)
 | (apply p1 (hd:=rfl);case hop=>first|(apply D_move;rfl)|(apply D_assign;rfl)|(apply D_pc hsd;rfl;exact .same rfl (.same rfl .nil))|(apply D_lenM;rfl)|(apply D_ext;rfl;rfl))
 | refine W_seq ?_
 | refine W_region ?_
 | refine WL_nil ?_
 | refine tn ?_
 | (refine W_block ?_)
  refine W_loopL (X:=Nat) (fun i=>[(2,.bp 0 0),(4,.bp 1 0),(6,.sc (.int .i64 E)),(14,sl9 D),(15,.sc (.int .i64 (D.length : Int))),(16,.sc (.int .i64 (i : Int)))]) (fun i=>[.cells (kC [0,0,0,0,0,0,0,0]),.cells (kC (kindsL (D.take i)))])
    (fun i=>i ≤ D.length) (fun i=>D.length - i) 0 (Nat.zero_le _) ⟨rfl,rfl,rfl,rfl,rfl,rfl,trivial⟩ rfl ?_
  intro i hi
  have hkl:=kinds_len (D.take i)
  have hkb:=kinds_bnd (D.take i)
  rw [List.length_take] at hkb
  by_cases hil : i < D.length
  · have ht:=kinds_take D i hil
    obtain ⟨r1,r2⟩:=hk _ (List.getElem_mem hil)
    have hb:=hkb (D[i]'hil).v.kind.toNat
    generalize kindsL (D.take i) = V at *
    have hkl8 : (D[i]'hil).v.kind.toNat < V.length:=by omega
    have hix : 0 + (D[i]'hil).v.kind.toNat * 1 = (D[i]'hil).v.kind.toNat:=by omega
    have hg : (kC V)[0 + (D[i]'hil).v.kind.toNat * 1]? = some (.sc (.int .i64 (V.getD (D[i]'hil).v.kind.toNat 0))):=by rw [hix];exact kC_get hkl8
    have hst : (kC V).take (0 + (D[i]'hil).v.kind.toNat * 1) ++ [.sc (.int .i64 (V.getD (D[i]'hil).v.kind.toNat 0 + 1))] ++ (kC V).drop (0 + (D[i]'hil).v.kind.toNat * 1 + 1) = kC (kst V (D[i]'hil).v.kind.toNat):=by rw [hix];exact kC_set hkl8
    have hble : Nat.ble (0 + (D[i]'hil).v.kind.toNat * 1 + 1) (kC V).length = true:=by rw [hix];simp [kC];omega
    have f1 : Value.int .i64 (IntKind.i64.wrap (V.getD (D[i]'hil).v.kind.toNat 0 + 1)) = .int .i64 (V.getD (D[i]'hil).v.kind.toNat 0 + 1):=by rw [w64 _ (by omega) (by omega)]
    repeat' first
 | (refine p1L (D_loadB1 rfl rfl hg) rfl ?_)
 | (refine pS (S_store rfl rfl rfl rfl rfl rfl hble) ?_)
 | (apply p1 (hd:=rfl);case hop=>first|(apply D_move;rfl)|exact D_sc (D_int rfl rfl rfl) f1|(apply D_load1;rfl)|(apply D_fld;rfl)|(apply D_int;rfl;rfl;rfl)|(apply D_loadW;rfl;rfl)|(apply D_idxAn;rfl;rfl;(first|omega|(simp;done)))|(apply D_ixPB;rfl;rfl;all_goals first|omega|((repeat rw [w64 _ (by omega) (by omega)]);omega)|decide))
 | refine W_seq ?_
 | refine W_region ?_
 | (refine idC ?_;refine cs rfl (fun _=>?_) (fun _=>?_))
 | refine WL_nil ?_
 | refine tn ?_
 | refine bn ?_
 | refine te ?_
 | (refine idB ?_;refine bh rfl ?_)
 | refine W_skip ?_
 | refine W_block ?_
 | refine W_exit ?_
 | (refine idA ?_;refine m_var rfl rfl rfl rfl rfl rfl rfl ?_)
    all_goals first|contradiction|(exfalso;omega)|skip
    refine ⟨rfl,i + 1,by omega,by omega,⟨rfl,rfl,rfl,rfl,rfl,ieq (wsucc i (by omega)),trivial⟩,?_⟩
    rw [ht,← hst];rfl
  · have ei : i = D.length:=by omega
    subst ei
    rw [List.take_length] at *
    obtain ⟨v0,v1,v2,v3,v4,v5,v6,v7,hV⟩:=eight hkl
    rw [hV]
    repeat' first
 | (apply p1 (hd:=rfl);case hop=>first|(apply D_move;rfl)|(apply D_assign;rfl)|(apply D_load1;rfl)|(apply D_fld;rfl)|(apply D_int;rfl;rfl;rfl)|(apply D_loadW;rfl;rfl)|(apply D_idxAn;rfl;rfl;(first|omega|(simp;done)))|(apply D_ixPB;rfl;rfl;all_goals first|omega|((repeat rw [w64 _ (by omega) (by omega)]);omega)|decide))
 | refine W_seq ?_
 | refine W_region ?_
 | (refine idC ?_;refine cs rfl (fun _=>?_) (fun _=>?_))
 | refine WL_nil ?_
 | refine tn ?_
 | refine te ?_
 | (refine idB ?_;refine bh rfl ?_)
 | refine W_skip ?_
 | refine W_block ?_
 | refine W_exit ?_
 | refine W_ret ?_
 | (refine idR ?_;first|refine rL2 rfl (by first|exact trivial|exact ⟨rfl,trivial⟩) (by first|exact ResO.tmp rfl|exact ResO.cellBA rfl rfl rfl|exact ResO.cellB1 rfl rfl rfl|exact ResO.cellEA rfl rfl|exact ResO.cellE1 rfl) (by first|exact ResO.tmp rfl|exact ResO.cellBA rfl rfl rfl|exact ResO.cellB1 rfl rfl rfl|exact ResO.cellEA rfl rfl|exact ResO.cellE1 rfl) ?_ ?_)
 | (refine idLd ?_;refine p1L (D_loadBA rfl rfl rfl) rfl ?_)
 | (refine idA ?_;refine m_var rfl rfl rfl rfl rfl rfl rfl ?_)
 | (refine idS ?_;refine pS (S_store rfl rfl rfl rfl rfl rfl rfl) ?_)
 | (refine Le.int ?_)
    all_goals first|contradiction|(exfalso;omega)|exact Le.of_eq rfl|rfl|skip
end Go.Proofs

namespace Go.Proofs
open Go.AL Go.Sort
attribute [local irreducible] Go.AL.W Go.AL.WL Go.AL.WD Go.AL.POp Go.AL.PPOp Go.AL.POpS Go.AL.PC Go.AL.AC Go.AL.YW Go.AL.Ret Go.AL.Le Go.AL.thn Go.AL.inBlk Go.AL.scp
noncomputable def kLen (o : Int) (l : List Dat) : Nat:=(l.map fun d=>(dkeyB o d).length).sum
def wr64 (x : Int) : Int:=IntKind.i64.wrap x
theorem wr64_add (a b : Int) : IntKind.i64.wrap (wr64 a + b) = wr64 (a + b):=by
  unfold wr64;rw [IntKind.wrap_i64,IntKind.wrap_i64,IntKind.wrap_i64];omega
theorem kLen_take (o : Int) (l : List Dat) (i : Nat) (h : i < l.length) : kLen o (l.take (i + 1)) = kLen o (l.take i) + (dkeyB o l[i]).length:=by
  unfold kLen;rw [List.take_succ_eq_append_getElem h,List.map_append,List.sum_append];simp
theorem kLen_perm {o : Int} {l m : List Dat} (h : l.Perm m) : kLen o l = kLen o m:=(h.map _).sum_nat
noncomputable def bytP (o : Int) (l : List Dat) : Int:=if 1 ≤ o ∧ o ≤ 4 then wr64 (kLen o (sortS o l) : Nat) else 0
open Classical in
noncomputable def bytE (o : Int) (l : List Dat) : Int:=if 1 ≤ o ∧ o ≤ 4 then (if dP (allD l) then 0 else 40) else 2
theorem sortS_sz {o : Int} {l : List Dat} (hs : ∀ d,d ∈ l → d.v.s.length < 9223372036854775808) : ∀ d,d ∈ sortS o l → d.v.s.length < 9223372036854775808:=fun d h=>by
  unfold sortS at h
  split at h
  · unfold dsortL at h
    split at h
    · next ho=>exact hs d ((dsort_mem ho l d).1 (by unfold dsortL;rw [if_pos ho];exact h)).1
    · cases h
  · cases h
set_option maxHeartbeats 16000000 in
theorem bytes_pc [GlobF Tryz.prog] (o : Int) (l : List Dat) (hl : l.length < 1048576) (hs : ∀ d,d ∈ l → d.v.s.length < 9223372036854775808) : PC Tryz.prog 36 [.sc (.int .i64 o),sl9 l] (.tu [.sc (.int .i64 (bytP o l)),.sc (.int .i64 (bytE o l))]):=by
  have hsd:=ssorted_pc o l (by omega) hs
  have hDs:=sortS_sz (o:=o) hs
  have hDl : (sortS o l).length ≤ l.length:=by
    unfold sortS
    split
    · exact dsortL_len o l
    · simp
  have hP : bytP o l = if 1 ≤ o ∧ o ≤ 4 then wr64 (kLen o (sortS o l) : Nat) else 0:=rfl
  have hE : bytE o l = if 1 ≤ o ∧ o ≤ 4 then (if dP (allD l) then 0 else 40) else 2:=rfl
  rw [hP,hE]
  generalize sortS o l = D at *
  generalize (if dP (allD l) = true then (0 : Int) else 40) = E at *
  by_cases ho : 1 ≤ o ∧ o ≤ 4
  rotate_left 1
  · rw [if_neg ho,if_neg ho]
    refine PC.of_body Tryz.func36 Tryz.ntmps36 rfl rfl rfl ?_
    repeat' first
 | (apply p1 (hd:=rfl);case hop=>first|(apply D_move;rfl)|(apply D_assign;rfl)|(apply D_pickT;rfl;rfl)|(apply D_pickF;rfl;rfl)|(apply D_int;rfl;rfl;rfl))
 | refine W_seq ?_
 | refine W_region ?_
 | (refine idC ?_;first|refine c1 rfl ?_|refine cs rfl (fun _=>?_) (fun _=>?_))
 | refine WL_nil ?_
 | (refine idG ?_;first|refine g0f rfl rfl rfl ?_|refine gr rfl rfl ?_|refine gs rfl rfl (fun _=>?_) (fun _=>?_))
 | refine tn ?_
 | refine tr ?_
 | refine W_skip ?_
 | refine W_ret ?_
 | (refine idR ?_;refine ret2 rfl rfl rfl rfl ?_ ?_)
 | (refine Le.int ?_)
    all_goals try (exfalso;omega)
    all_goals rfl
  rw [if_pos ho,if_pos ho]
  refine PC.of_body Tryz.func36 Tryz.ntmps36 rfl rfl rfl ?_
  repeat' first
 | (apply p1 (hd:=rfl);case hop=>first|(apply D_move;rfl)|(apply D_assign;rfl)|(apply D_pc hsd;rfl;exact .same rfl (.same rfl .nil))|(apply D_pickT;rfl;rfl)|(apply D_pickF;rfl;rfl)|(apply D_int;rfl;rfl;rfl)|(apply D_lenM;rfl)|(apply D_ext;rfl;rfl))
 | refine W_seq ?_
 | refine W_region ?_
 | (refine idC ?_;first|refine c1 rfl ?_|refine cs rfl (fun _=>?_) (fun _=>?_))
 | refine WL_nil ?_
 | (refine idG ?_;first|refine g0f rfl rfl rfl ?_|refine gr rfl rfl ?_|refine gs rfl rfl (fun _=>?_) (fun _=>?_))
 | refine tn ?_
 | refine tr ?_
 | refine W_skip ?_
 | refine W_block ?_
 | refine W_ret ?_
 | (refine idR ?_;refine ret2 rfl rfl rfl rfl ?_ ?_)
 | (refine Le.int ?_)
  all_goals try (exfalso;omega)
  refine W_loopL (X:=Nat) (fun i=>[(0,.sc (.int .i64 o)),(7,.sc (.int .i64 E)),(8,.sc (.int .i64 (wr64 (kLen o (D.take i) : Nat)))),(25,sl9 D),(26,.sc (.int .i64 (D.length : Int))),(27,.sc (.int .i64 (i : Int)))]) (fun _=>[])
    (fun i=>i ≤ D.length) (fun i=>D.length - i) 0 (Nat.zero_le _) ⟨rfl,rfl,rfl,rfl,rfl,rfl,trivial⟩ rfl ?_
  intro i hi
  by_cases hil : i < D.length
  · have ht:=kLen_take o D i hil
    have hk:=dkey_pc o (D[i]'hil) (hDs _ (List.getElem_mem hil))
    have hw : Value.int .i64 (IntKind.i64.wrap (wr64 (kLen o (D.take i) : Nat) + ((dkeyB o (D[i]'hil)).map byteC).length)) = .int .i64 (wr64 (kLen o (D.take (i + 1)) : Nat)):=by
      rw [wr64_add,ht,List.length_map];rfl
    generalize (dkeyB o (D[i]'hil)).map byteC = KB at *
    repeat' first
 | (apply p1 (hd:=rfl);case hop=>first|(apply D_move;rfl)|(apply D_assign;rfl)|exact D_sc (D_int rfl rfl rfl) hw|(apply D_pc hk;rfl;exact .same rfl (.same rfl .nil))|(apply D_int;rfl;rfl;rfl)|(apply D_len_sl;rfl)|(apply D_ext;rfl;rfl)|(apply D_loadW;rfl;rfl)|(apply D_idxAn;rfl;rfl;(first|omega|(simp;done))))
 | refine W_seq ?_
 | refine W_region ?_
 | (refine idC ?_;refine cs rfl (fun _=>?_) (fun _=>?_))
 | refine WL_nil ?_
 | refine tn ?_
 | refine bn ?_
 | refine te ?_
 | (refine idB ?_;refine bh rfl ?_)
 | refine W_skip ?_
 | refine W_block ?_
 | refine W_exit ?_
 | refine W_ret ?_
 | (refine idR ?_;refine ret2 rfl rfl rfl rfl ?_ ?_)
 | (refine idA ?_;refine m_var rfl rfl rfl rfl rfl rfl rfl ?_)
 | (refine Le.int ?_)
    all_goals first
      | contradiction
      | (exfalso;omega)
      | exact ⟨rfl,i + 1,by omega,by omega,⟨rfl,rfl,rfl,rfl,rfl,ieq (wsucc i (by omega)),trivial⟩,rfl⟩
      | skip
  · have ei : i = D.length:=by omega
    subst ei
    rw [List.take_length]
    repeat' first
 | (apply p1 (hd:=rfl);case hop=>first|(apply D_move;rfl)|(apply D_assign;rfl)|(apply D_int;rfl;rfl;rfl)|(apply D_loadW;rfl;rfl)|(apply D_idxAn;rfl;rfl;(first|omega|(simp;done))))
 | refine W_seq ?_
 | refine W_region ?_
 | (refine idC ?_;refine cs rfl (fun _=>?_) (fun _=>?_))
 | refine WL_nil ?_
 | refine tn ?_
 | refine te ?_
 | (refine idB ?_;refine bh rfl ?_)
 | refine W_skip ?_
 | refine W_block ?_
 | refine W_exit ?_
 | refine W_ret ?_
 | (refine idR ?_;refine ret2 rfl rfl rfl rfl ?_ ?_)
 | (refine idA ?_;refine m_var rfl rfl rfl rfl rfl rfl rfl ?_)
 | (refine Le.int ?_)
    all_goals first|contradiction|(exfalso;omega)|rfl|skip
end Go.Proofs

namespace Go.Proofs
open Go.AL Go.Sort
attribute [local irreducible] Go.AL.W Go.AL.WL Go.AL.WD Go.AL.POp Go.AL.PPOp Go.AL.POpS Go.AL.PC Go.AL.AC Go.AL.YW Go.AL.Ret Go.AL.Le Go.AL.thn Go.AL.inBlk Go.AL.scp
theorem putX_sum (l : List Txn) (d : Dat) : ((putX l d).map fun p=>p.ad + p.cu).sum = (l.map fun p=>p.ad + p.cu).sum + 1 ∧ ((putX l d).map Txn.ad).sum = (l.map Txn.ad).sum + (if d.add = true then 1 else 0):=by
  induction l with
  | nil=>cases h : d.add <;> simp [putX,bumpT,h]
  | cons p l ih =>
    simp only [putX]
    split
    · simp only [List.map_cons,List.sum_cons,ih.1,ih.2];constructor <;> omega
    · split
      · cases h : d.add <;> simp [bumpT,h] <;> omega
      · cases h : d.add <;> simp [bumpT,h] <;> omega
theorem txs_sum : ∀ (n : Nat) (D : List Dat),D.length = n → ((txsL D).map fun p=>p.ad + p.cu).sum = (D.length : Int) ∧ ((txsL D).map Txn.ad).sum = (addN D : Int)
  | 0,D,h=>by
    have:=List.eq_nil_of_length_eq_zero h
    subst this;exact ⟨rfl,rfl⟩
  | n + 1,D,h=>by
    rcases snocG D with rfl | ⟨m,d,rfl⟩
    · simp at h
    have ih:=txs_sum n m (by simpa using h)
    have hp:=putX_sum (txsL m) d
    rw [txsL_snoc,hp.1,hp.2,ih.1,ih.2,addN_snoc]
    constructor
    · simp
    · cases d.add <;> simp
theorem kst_sum {v : List Int} {i : Nat} (h : i < v.length) : (kst v i).sum = v.sum + 1:=by
  unfold kst
  rw [List.set_eq_take_append_cons_drop,if_pos h]
  have : v = v.take i ++ v[i] :: v.drop (i + 1):=by rw [List.getElem_cons_drop h,List.take_append_drop]
  have h2 : v.getD i 0 = v[i]:=by rw [List.getD_eq_getElem?_getD,List.getElem?_eq_getElem h];rfl
  rw [h2]
  conv=>rhs;rw [this]
  simp only [List.sum_append,List.sum_cons];omega
theorem kinds_sum : ∀ (n : Nat) (D : List Dat),D.length = n → (∀ d,d ∈ D → 1 ≤ d.v.kind ∧ d.v.kind ≤ 7) → (kindsL D).sum = (D.length : Int)
  | 0,D,h,_=>by
    have:=List.eq_nil_of_length_eq_zero h
    subst this;rfl
  | n + 1,D,h,hk=>by
    rcases snocG D with rfl | ⟨m,d,rfl⟩
    · simp at h
    have ih:=kinds_sum n m (by simpa using h) fun x hx=>hk x (List.mem_append.2 (.inl hx))
    have hd:=hk d (by simp)
    have : kindsL (m ++ [d]) = kst (kindsL m) d.v.kind.toNat:=by unfold kindsL;rw [List.foldl_append];rfl
    rw [this,kst_sum (by rw [kinds_len];omega),ih];simp
theorem sum_keys (g : Dat → Int) (ks : List Int) (hn : ks.Nodup) : ∀ D : List Dat,(∀ d,d ∈ D → g d ∈ ks) → (ks.map fun x=>((D.filter fun d=>decide (g d = x)).length : Int)).sum = (D.length : Int)
  | [],_=>by
    have : (ks.map fun x=>((([] : List Dat).filter fun d=>decide (g d = x)).length : Int)) = ks.map fun _=>0:=rfl
    rw [this]
    clear hn this
    induction ks with
    | nil=>rfl
    | cons a l ih=>simpa using ih
  | d :: D,h=>by
    have ih:=sum_keys g ks hn D fun x hx=>h x (.tail _ hx)
    have hd:=h d (.head _)
    have e : ∀ ks : List Int,ks.Nodup → (ks.map fun x=>(((d :: D).filter fun d=>decide (g d = x)).length : Int)).sum = (ks.map fun x=>((D.filter fun d=>decide (g d = x)).length : Int)).sum + (if g d ∈ ks then 1 else 0):=by
      intro ks hn
      induction ks with
      | nil=>simp
      | cons a l ih2 =>
        obtain ⟨n1,n2⟩:=List.nodup_cons.1 hn
        have i2:=ih2 n2
        simp only [List.map_cons,List.sum_cons,i2]
        by_cases ha : g d = a
        · have hnl : g d ∉ l:=ha ▸ n1
          rw [if_neg hnl,if_pos (by rw [ha];exact .head _),List.filter_cons,if_pos (by simpa using ha)]
          simp only [List.length_cons];omega
        · rw [List.filter_cons,if_neg (by simpa using ha)]
          have : (g d ∈ a :: l) ↔ g d ∈ l:=by simp [ha]
          by_cases hl : g d ∈ l
          · rw [if_pos hl,if_pos (this.2 hl)];omega
          · rw [if_neg hl,if_neg (fun x=>hl (this.1 x))];omega
    rw [e ks hn,ih,if_pos hd];simp
theorem attrs_sum (D : List Dat) (F : List Fac) : ((attsR D F).map Att.n).sum = (D.length : Int) ∧ ((attsR D F).map Att.ad).sum = (addN D : Int):=by
  have hn : (insL cmpI (D.map Dat.a)).Nodup:=(insI_rise (D.map Dat.a)).imp fun h e=>by omega
  have hm : ∀ d,d ∈ D → d.a ∈ insL cmpI (D.map Dat.a):=fun d hd=>(insI_mem _ _).2 (List.mem_map.2 ⟨d,hd,rfl⟩)
  unfold attsR
  rw [List.map_map,List.map_map]
  constructor
  · exact sum_keys Dat.a _ hn D hm
  · have h2:=sum_keys Dat.a _ hn (D.filter fun d=>d.add) fun d hd=>hm d (List.mem_filter.1 hd).1
    rw [show (addN D : Int) = ((D.filter fun d=>d.add).length : Int) from rfl,← h2]
    congr 1
    refine List.map_congr_left fun x _=>?_
    show ((attR D F x).ad : Int) = _
    have : (attR D F x).ad = (addN (D.filter (ofA x)) : Int):=rfl
    rw [this]
    unfold addN
    rw [List.filter_filter,List.filter_filter]
    congr 2
    refine List.filter_congr fun d _=>?_
    unfold ofA
    exact Bool.and_comm _ _
theorem key1_len {d : Dat} (h : dmayP d) : 0 < (dkeyB 1 d).length ∧ (dkeyB 1 d).length ≤ 3000:=by
  have e : dkeyB 1 d = (part7 1 d).flatMap partB:=by
    unfold dkeyB
    rw [if_pos (by decide),if_pos ⟨h,.inl (by decide)⟩]
  have hm:=may_len h.2.2.2.2.1
  have hv:=valB_len d.v
  have h8:=num8_len
  have n1 : ∀ n,(partB (prtN n)).length = 8:=fun n=>h8 n
  have n2 : partB (prtV d.v) = valB d.v:=rfl
  rw [e]
  unfold part7 fst1 fst2 fst3
  simp only [List.flatMap_cons,List.flatMap_nil,List.length_append,n1,List.length_nil,if_true,n2]
  omega
open Classical in
theorem bytes_sum (l m : List Dat) (hl : allD l) (hm : allD m) :
    ∃ k : Nat,kLen 1 (dsortL 1 (l ++ m)) + k = kLen 1 (dsortL 1 l) + kLen 1 (dsortL 1 m) ∧ (k = 0 ↔ (dsortL 1 (l ++ m)).length = (dsortL 1 l).length + (dsortL 1 m).length):=by
  have hmem : ∀ (x : List Dat) (d : Dat),d ∈ dsortL 1 x ↔ d ∈ x:=fun x d=>by
    rw [dsort_mem (by decide)];exact ⟨fun h=>h.1,fun h=>⟨h,.inl (by decide)⟩⟩
  have hnd : ∀ x : List Dat,(dsortL 1 x).Nodup:=fun x=>(dsort_rise (by decide) x).imp fun {a b} h e=>by
    subst e
    have:=(wc_cmpD 1).refl a
    omega
  have hp : (dsortL 1 (l ++ m)).Perm (dsortL 1 l ++ (dsortL 1 m).filter fun d=>decide (d ∉ dsortL 1 l)):=by
    refine (List.perm_ext_iff_of_nodup (hnd _) ?_).2 fun d=>?_
    · refine List.nodup_append.2 ⟨hnd l,(hnd m).filter _,fun a ha b hb e=>?_⟩
      subst e
      have:=(List.mem_filter.1 hb).2
      simp at this
      exact this ha
    · rw [hmem,List.mem_append,List.mem_append,List.mem_filter,decide_eq_true_eq,hmem m,hmem l]
      constructor
      · rintro (h|h)
        · exact .inl h
        · by_cases hd : d ∈ l
          · exact .inl hd
          · exact .inr ⟨h,hd⟩
      · rintro (h | ⟨h,_⟩)
        · exact .inl h
        · exact .inr h
  have hsplit : ∀ (p : Dat → Bool) (x : List Dat),kLen 1 (x.filter p) + kLen 1 (x.filter fun d=>!p d) = kLen 1 x ∧ (x.filter p).length + (x.filter fun d=>!p d).length = x.length:=fun p x=>by
    induction x with
    | nil=>exact ⟨rfl,rfl⟩
    | cons a x ih =>
      obtain ⟨i1,i2⟩:=ih
      unfold kLen at i1 ⊢
      rw [List.filter_cons,List.filter_cons]
      cases p a <;> simp only [Bool.not_true,Bool.not_false,Bool.false_eq_true,if_true,if_false,List.map_cons,List.sum_cons,List.length_cons] <;> constructor <;> omega
  have hs:=hsplit (fun d=>decide (d ∉ dsortL 1 l)) (dsortL 1 m)
  have happ : ∀ x y : List Dat,kLen 1 (x ++ y) = kLen 1 x + kLen 1 y:=fun x y=>by unfold kLen;rw [List.map_append,List.sum_append]
  have h1:=kLen_perm (o:=1) hp
  have h2:=hp.length_eq
  rw [happ] at h1
  rw [List.length_append] at h2
  refine ⟨kLen 1 ((dsortL 1 m).filter fun d=>!decide (d ∉ dsortL 1 l)),by omega,?_⟩
  have hz : ∀ x : List Dat,(∀ d,d ∈ x → dmayP d) → (kLen 1 x = 0 ↔ x.length = 0):=fun x hx=>by
    cases x with
    | nil=>exact ⟨fun _=>rfl,fun _=>rfl⟩
    | cons a x =>
      have:=(key1_len (hx a (.head _))).1
      unfold kLen
      simp only [List.map_cons,List.sum_cons,List.length_cons]
      omega
  rw [hz _ fun d hd=>hm d ((hmem m d).1 (List.mem_filter.1 hd).1)]
  omega
theorem kLen_bnd : ∀ D : List Dat,(∀ d,d ∈ D → dmayP d) → kLen 1 D ≤ 3000 * D.length
  | [],_=>Nat.le_refl _
  | d :: D,h=>by
    have h1:=kLen_bnd D fun x hx=>h x (.tail _ hx)
    have h2:=(key1_len (h d (.head _))).2
    unfold kLen at h1 ⊢
    simp only [List.map_cons,List.sum_cons,List.length_cons]
    omega
end Go.Proofs

namespace Go.Proofs
open Go.AL Go.Sort
attribute [local irreducible] Go.AL.W Go.AL.WL Go.AL.WD Go.AL.POp Go.AL.PPOp Go.AL.POpS Go.AL.PC Go.AL.AC Go.AL.YW Go.AL.Ret Go.AL.Le Go.AL.thn Go.AL.inBlk Go.AL.scp
theorem conc_tu2 {n : Int} {b : Bool} (G G' : Gh) (u : Value) (h : Conc G u (.tu [.sc (.int .i64 n),.sc (.bool b)])) : Conc G' u (.tu [.sc (.int .i64 n),.sc (.bool b)]):=by
  cases h with
  | tu h1 h2 =>
    refine .tu h1 fun i v x hv hx=>?_
    have:=h2 i v x hv hx
    rcases i with _|_|i
    · simp at hx;subst hx;rw [conc_sc this];exact .sc _
    · simp at hx;subst hx;rw [conc_sc this];exact .sc _
    · simp at hx
theorem txC_pur (l : List Txn) : PurL (l.map txC).flatten:=⟨fun x hx G u h=>by
  obtain ⟨e,he,hx⟩:=List.mem_flatten.1 hx
  obtain ⟨p,_,rfl⟩:=List.mem_map.1 he
  simp [txC] at hx
  rcases hx with rfl|rfl|rfl <;> exact Pur.h G u h⟩
theorem renRow {rg rg' : List (Nat × AV)} {h : List AObj} {q k e : Nat} {els : List (List AV)} [PurLL els] (hq : h[q]? = some (.row k e els)) (hr : RenL [q] rg rg') : Ren ⟨[],0⟩ [q] rg h rg' [.row k e els] :=
  ⟨by simp,fun r hr=>absurd hr (Nat.not_lt_zero r),fun r hr=>(by cases hr),hr,⟨⟨_,hq,.row _ _ _⟩,trivial⟩⟩
set_option maxHeartbeats 16000000 in
theorem txs_pc [GlobF Tryz.prog] (l : List Dat) (hl : l.length < 1048576) (hs : ∀ d,d ∈ l → d.v.s.length < 9223372036854775808) :
    PC Tryz.prog 33 [sl9 l] (.tu [.sl none 3 ((if dP (allD l) then txsL (dsortL 1 l) else []).map txC),.sc (.int .i64 (if dP (allD l) then 0 else 40))]):=by
  have hsd:=ssorted_pc 1 l (by omega) hs
  by_cases hA : allD l
  rotate_left 1
  · rw [← dP_F hA] at hsd ⊢
    refine PC.of_body Tryz.func33 Tryz.ntmps33 rfl rfl rfl ?_
    repeat' first
 | (apply p1 (hd:=rfl);case hop=>first|(apply D_move;rfl)|(apply D_assign;rfl)|(apply D_pc hsd;rfl;exact .same rfl (.same rfl .nil))|(apply D_int;rfl;rfl;rfl)|(apply D_lenM;rfl)|(apply D_ext;rfl;rfl))
 | refine W_seq ?_
 | refine W_region ?_
 | (refine idC ?_;refine cs rfl (fun _=>?_) (fun _=>?_))
 | refine WL_nil ?_
 | refine tn ?_
 | refine tr ?_
 | refine W_skip ?_
 | refine W_block ?_
 | refine W_ret ?_
 | (refine idR ?_;refine ret2 rfl rfl rfl rfl ?_ ?_)
 | (refine Le.int ?_)
    all_goals first|exact Le.nil rfl|rfl|contradiction|(exfalso;omega)|skip
  have hSl:=dsortL_len 1 l
  have hSD : sortS 1 l = dsortL 1 l:=by unfold sortS;rw [← dP_T hA];rfl
  rw [hSD,← dP_T hA] at hsd
  rw [← dP_T hA]
  simp only [if_true] at hsd ⊢
  generalize dsortL 1 l = D at *
  refine PC.of_body Tryz.func33 Tryz.ntmps33 rfl rfl rfl ?_
  repeat' first
 | (apply p1 (hd:=rfl);case hop=>first|(apply D_move;rfl)|(apply D_assign;rfl)|(apply D_pc hsd;rfl;exact .same rfl (.same rfl .nil))|(apply D_int;rfl;rfl;rfl)|(apply D_lenM;rfl)|(apply D_ext;rfl;rfl))
 | refine W_seq ?_
 | refine W_region ?_
 | (refine idC ?_;refine cs rfl (fun _=>?_) (fun _=>?_))
 | refine WL_nil ?_
 | refine tn ?_
 | refine tr ?_
 | refine W_skip ?_
 | refine W_block ?_
 | refine W_ret ?_
 | (refine idR ?_;refine ret2 rfl rfl rfl rfl ?_ ?_)
 | (refine Le.int ?_)
  all_goals first|contradiction|(exfalso;omega)|skip
  refine W_adoptG 6 3 90 rfl ?_
  have hDl : D.length < 1048576:=by omega
  refine W_loopR (X:=Nat) (fun i=>[(6,rowA 0 ((txsL (D.take i)).map txC).length),(19,sl9 D),(20,.sc (.int .i64 (D.length : Int))),(21,.sc (.int .i64 (i : Int)))]) (fun i=>[.row 3 90 ((txsL (D.take i)).map txC)])
    (fun i=>i ≤ D.length) (fun i=>D.length - i) 0 (Nat.zero_le _) ⟨rfl,rfl,rfl,rfl,trivial⟩ rfl ?_
  intro i hi
  obtain ⟨hlen,hrise⟩:=txsL_ok _ (D.take i) rfl
  have hbnd:=txsL_bnd _ (D.take i) rfl
  rw [List.length_take] at hlen hbnd
  by_cases hil : i < D.length
  · have hsn:=txsL_take D i hil
    generalize txsL (D.take i) = O at *
    obtain ⟨lo,h1,h2,h3,hq⟩:=searchT_pc O (D[i]'hil).t (by omega) hrise
    have hqr:=fun (h : List AObj) (hh : h[0]? = some (.row 3 90 (O.map txC)))=>PC.row hq inferInstance (txC_pur O) conc_tu2 (h:=h) (r:=0) hh rfl
    by_cases hf : ∃ h : lo < O.length,O[lo].t = (D[i]'hil).t
    · rw [← dP_T hf] at hqr
      obtain ⟨hlo,het⟩:=hf
      have hP:=putX_found O (D[i]'hil) lo hlo h2 het
      have hb:=hbnd _ (List.getElem_mem hlo)
      obtain ⟨b1,b2,b3⟩:=hb
      have f1 : Value.int .i64 (IntKind.i64.wrap ((O[lo]'hlo).ad + 1)) = .int .i64 ((O[lo]'hlo).ad + 1):=by rw [w64 _ (by omega) (by omega)]
      have f2 : Value.int .i64 (IntKind.i64.wrap ((O[lo]'hlo).cu + 1)) = .int .i64 ((O[lo]'hlo).cu + 1):=by rw [w64 _ (by omega) (by omega)]
      have hg1:=flat_atk (f:=txC) (k:=3) (fun _=>rfl) O lo 1 hlo (by decide)
      have hg2:=flat_atk (f:=txC) (k:=3) (fun _=>rfl) O lo 2 hlo (by decide)
      have hs1:=flat_setk (f:=txC) (k:=3) (fun _=>rfl) O lo hlo ⟨(O[lo]'hlo).t,(O[lo]'hlo).ad + 1,(O[lo]'hlo).cu⟩ 1 [.sc (.int .i64 ((O[lo]'hlo).ad + 1))] (by simp) rfl
      have hs2:=flat_setk (f:=txC) (k:=3) (fun _=>rfl) O lo hlo ⟨(O[lo]'hlo).t,(O[lo]'hlo).ad,(O[lo]'hlo).cu + 1⟩ 2 [.sc (.int .i64 ((O[lo]'hlo).cu + 1))] (by simp) rfl
      have hfl:=flat_lk (f:=txC) (k:=3) (fun _=>rfl) O
      have hlo' : lo < (O.map txC).length:=by rw [List.length_map];exact hlo
      repeat' first
 | (refine p1L (D_ixRowN rfl rfl rfl rfl hlo') rfl ?_)
 | (refine p1L (D_loadG1 rfl rfl hg1) rfl ?_)
 | (refine p1L (D_loadG1 rfl rfl hg2) rfl ?_)
 | (refine pS (S_storeG ((O.set lo ⟨(O[lo]'hlo).t,(O[lo]'hlo).ad + 1,(O[lo]'hlo).cu⟩).map txC) rfl rfl rfl rfl rfl rfl (by rw [hfl];(try simp only [List.length_cons,List.length_nil]);omega) (by simp) (fun x hx=>by obtain ⟨p,_,rfl⟩:=List.mem_map.1 hx;rfl) hs1 (by simp;omega)) ?_)
 | (refine pS (S_storeG ((O.set lo ⟨(O[lo]'hlo).t,(O[lo]'hlo).ad,(O[lo]'hlo).cu + 1⟩).map txC) rfl rfl rfl rfl rfl rfl (by rw [hfl];(try simp only [List.length_cons,List.length_nil]);omega) (by simp) (fun x hx=>by obtain ⟨p,_,rfl⟩:=List.mem_map.1 hx;rfl) hs2 (by simp;omega)) ?_)
 | (apply p1 (hd:=rfl);case hop=>first|(apply D_move;rfl)|(apply D_assign;rfl)|exact D_sc (D_int rfl rfl rfl) f1|exact D_sc (D_int rfl rfl rfl) f2|(apply D_load1;rfl)|(apply D_fld;rfl)|(apply D_int;rfl;rfl;rfl)|(apply D_ext;rfl;rfl)|(apply D_not;rfl)|(apply D_loadW;rfl;rfl)|(apply D_idxAn;rfl;rfl;(first|omega|(simp;done)))|(apply D_lit;rfl;rfl;rfl;rfl)|exact D_build rfl|exact D_fldB rfl)
 | refine W_seq ?_
 | refine W_region ?_
 | (refine idC ?_;refine cs rfl (fun _=>?_) (fun _=>?_))
 | refine WL_nil ?_
 | refine tn ?_
 | refine bn ?_
 | refine te ?_
 | (refine idB ?_;refine bh rfl ?_)
 | refine W_skip ?_
 | refine W_block ?_
 | refine W_exit ?_
 | refine W_ret ?_
 | (refine idR ?_;refine ret2 rfl rfl rfl rfl ?_ ?_)
 | (refine idA ?_;refine m_var rfl rfl rfl rfl rfl rfl rfl ?_)
 | refine Le.int ?_
 | (refine m_call (d:=29) (hqr _ rfl) rfl rfl rfl ?_;rintro _ _ ⟨rfl,rfl⟩)
      all_goals first|contradiction|(exfalso;omega)|skip
      · rename_i hadd
        rw [hadd] at hP
        refine ⟨rfl,i + 1,by omega,by omega,[0],?_⟩
        rw [hsn,hP]
        exact renRow rfl ⟨⟨_,rfl,mvRow rfl (by simp)⟩,⟨_,rfl,.pur⟩,⟨_,rfl,.pur⟩,⟨_,rfl,by rw [wsucc i (by omega)];exact .pur⟩,trivial⟩
      · rename_i hadd
        rw [hadd] at hP
        refine ⟨rfl,i + 1,by omega,by omega,[0],?_⟩
        rw [hsn,hP]
        exact renRow rfl ⟨⟨_,rfl,mvRow rfl (by simp)⟩,⟨_,rfl,.pur⟩,⟨_,rfl,.pur⟩,⟨_,rfl,by rw [wsucc i (by omega)];exact .pur⟩,trivial⟩
    · rw [← dP_F hf] at hqr
      have hP:=putX_new O (D[i]'hil) lo h1 h2 (fun hlo=>by have a:=h3 lo hlo (Nat.le_refl _);have b : O[lo].t ≠ (D[i]'hil).t:=fun e=>hf ⟨hlo,e⟩;omega)
      obtain ⟨O',hO'⟩ : ∃ O' : List Txn,O' = O.take lo ++ ⟨(D[i]'hil).t,0,0⟩ :: O.drop lo:=⟨_,rfl⟩
      have hl' : O'.length = O.length + 1:=by rw [hO'];simp;omega
      have hm' : (O.map txC).take lo ++ txC ⟨(D[i]'hil).t,0,0⟩ :: (O.map txC).drop lo = O'.map txC:=by rw [hO'];simp [List.map_take,List.map_drop]
      have hlo : lo < O'.length:=by omega
      have hgt : O'[lo]'hlo = ⟨(D[i]'hil).t,0,0⟩:=by subst hO';rw [List.getElem_append_right (by simp;omega)];simp [Nat.min_eq_left h1]
      have hset : ∀ x,O'.set lo x = O.take lo ++ x :: O.drop lo:=fun x=>by subst hO';rw [List.set_append_right _ _ (by simp;omega)];simp [Nat.min_eq_left h1]
      have hia:=fun (h : List AObj) (r2 : Nat) (hh : h[0]? = some (.row 3 90 (O.map txC))) (ht : h[r2]? = some (.tail 1 3 90))=>insert_ac (h:=h) (r:=0) (r2:=r2) (i:=lo) (els:=O.map txC) (x:=txC ⟨(D[i]'hil).t,0,0⟩) hh ht rfl (fun y hy=>by simp [txC] at hy;rcases hy with rfl|rfl|rfl <;> rfl) (fun e he y hy=>by obtain ⟨p,_,rfl⟩:=List.mem_map.1 he;simp [txC] at hy;rcases hy with rfl|rfl|rfl <;> rfl) (by rw [List.length_map];exact h1) (by rw [List.length_map];omega)
      rw [hm'] at hia
      have hg1:=flat_atk (f:=txC) (k:=3) (fun _=>rfl) O' lo 1 hlo (by decide)
      have hg2:=flat_atk (f:=txC) (k:=3) (fun _=>rfl) O' lo 2 hlo (by decide)
      rw [hgt] at hg1 hg2
      have hs1:=flat_setk (f:=txC) (k:=3) (fun _=>rfl) O' lo hlo ⟨(D[i]'hil).t,1,0⟩ 1 [.sc (.int .i64 1)] (by decide) (by rw [hgt];rfl)
      have hs2:=flat_setk (f:=txC) (k:=3) (fun _=>rfl) O' lo hlo ⟨(D[i]'hil).t,0,1⟩ 2 [.sc (.int .i64 1)] (by decide) (by rw [hgt];rfl)
      have hfl:=flat_lk (f:=txC) (k:=3) (fun _=>rfl) O'
      have hlo' : lo < (O.map txC).length + 1:=by rw [List.length_map];omega
      have hn' : (O.map txC).length + 1 = (O'.map txC).length:=by simp [hl']
      repeat' first
 | (refine m_lit (d:=39) rfl rfl rfl rfl rfl rfl ?_)
 | (refine p1L (D_ixRowN rfl rfl hn' rfl hlo') rfl ?_)
 | (refine p1L (D_loadG1 rfl rfl hg1) rfl ?_)
 | (refine p1L (D_loadG1 rfl rfl hg2) rfl ?_)
 | (refine pS (S_storeG ((O'.set lo ⟨(D[i]'hil).t,1,0⟩).map txC) rfl rfl rfl rfl rfl rfl (by rw [hfl];(try simp only [List.length_cons,List.length_nil]);omega) (by simp) (fun x hx=>by obtain ⟨p,_,rfl⟩:=List.mem_map.1 hx;rfl) hs1 (by simp;omega)) ?_)
 | (refine pS (S_storeG ((O'.set lo ⟨(D[i]'hil).t,0,1⟩).map txC) rfl rfl rfl rfl rfl rfl (by rw [hfl];(try simp only [List.length_cons,List.length_nil]);omega) (by simp) (fun x hx=>by obtain ⟨p,_,rfl⟩:=List.mem_map.1 hx;rfl) hs2 (by simp;omega)) ?_)
 | (apply p1 (hd:=rfl);case hop=>first|(apply D_move;rfl)|(apply D_assign;rfl)|(apply D_load1;rfl)|(apply D_fld;rfl)|(apply D_int;rfl;rfl;rfl)|(apply D_ext;rfl;rfl)|(apply D_not;rfl)|(apply D_loadW;rfl;rfl)|(apply D_idxAn;rfl;rfl;(first|omega|(simp;done)))|exact D_build rfl|exact D_fldB rfl)
 | refine W_seq ?_
 | refine W_region ?_
 | (refine idC ?_;refine cs rfl (fun _=>?_) (fun _=>?_))
 | refine WL_nil ?_
 | refine tn ?_
 | refine bn ?_
 | refine te ?_
 | (refine idB ?_;refine bh rfl ?_)
 | refine W_skip ?_
 | refine W_block ?_
 | refine W_exit ?_
 | refine W_ret ?_
 | (refine idR ?_;refine ret2 rfl rfl rfl rfl ?_ ?_)
 | (refine idA ?_;refine m_var rfl rfl rfl rfl rfl rfl rfl ?_)
 | refine Le.int ?_
 | (refine m_call (d:=29) (hqr _ rfl) rfl rfl rfl ?_;rintro _ _ ⟨rfl,rfl⟩)
 | (refine m_call (d:=40) (hia _ _ rfl rfl) rfl rfl rfl ?_;rintro _ _ ⟨rfl,rfl⟩)
      all_goals first|contradiction|(exfalso;omega)|skip
      · rename_i hadd
        rw [hadd,← hset] at hP
        refine ⟨rfl,i + 1,by omega,by omega,[2],?_⟩
        rw [hsn,hP]
        exact renRow rfl ⟨⟨_,rfl,mvRow rfl (by simp [hl'])⟩,⟨_,rfl,.pur⟩,⟨_,rfl,.pur⟩,⟨_,rfl,by rw [wsucc i (by omega)];exact .pur⟩,trivial⟩
      · rename_i hadd
        rw [hadd,← hset] at hP
        refine ⟨rfl,i + 1,by omega,by omega,[2],?_⟩
        rw [hsn,hP]
        exact renRow rfl ⟨⟨_,rfl,mvRow rfl (by simp [hl'])⟩,⟨_,rfl,.pur⟩,⟨_,rfl,.pur⟩,⟨_,rfl,by rw [wsucc i (by omega)];exact .pur⟩,trivial⟩
  · have ei : i = D.length:=by omega
    subst ei
    rw [List.take_length] at *
    generalize txsL D = O at *
    cases O with
    | nil =>
      repeat' first
 | (apply p1 (hd:=rfl);case hop=>first|(apply D_move;rfl)|(apply D_assign;rfl)|(apply D_load1;rfl)|(apply D_fld;rfl)|(apply D_int;rfl;rfl;rfl)|(apply D_loadW;rfl;rfl)|(apply D_idxAn;rfl;rfl;(first|omega|(simp;done))))
 | refine W_seq ?_
 | refine W_region ?_
 | (refine idC ?_;refine cs rfl (fun _=>?_) (fun _=>?_))
 | refine WL_nil ?_
 | refine tn ?_
 | refine te ?_
 | (refine idB ?_;refine bh rfl ?_)
 | refine W_skip ?_
 | refine W_block ?_
 | refine W_exit ?_
 | refine W_ret ?_
 | (refine idR ?_;refine ret2 rfl rfl rfl rfl ?_ ?_)
 | (refine idA ?_;refine m_var rfl rfl rfl rfl rfl rfl rfl ?_)
 | (refine Le.int ?_)
      all_goals first|contradiction|(exfalso;omega)|exact Le.row0|rfl|skip
    | cons x O =>
      repeat' first
 | (refine WL_rowM 6 0 rfl rfl rfl (by simp) ?_;intro sp2;refine WL_frz 6 0 3 (els:=(x :: O).map txC) (sp:=sp2) rfl rfl (by simp) (fun e he=>by obtain ⟨p,_,rfl⟩:=List.mem_map.1 he;rfl) ?_)
 | (apply p1 (hd:=rfl);case hop=>first|(apply D_move;rfl)|(apply D_assign;rfl)|(apply D_load1;rfl)|(apply D_fld;rfl)|(apply D_int;rfl;rfl;rfl)|(apply D_loadW;rfl;rfl)|(apply D_idxAn;rfl;rfl;(first|omega|(simp;done))))
 | refine W_seq ?_
 | refine W_region ?_
 | (refine idC ?_;refine cs rfl (fun _=>?_) (fun _=>?_))
 | refine WL_nil ?_
 | refine tn ?_
 | refine te ?_
 | (refine idB ?_;refine bh rfl ?_)
 | refine W_skip ?_
 | refine W_block ?_
 | refine W_exit ?_
 | refine W_ret ?_
 | (refine idR ?_;refine ret2 rfl rfl rfl rfl ?_ ?_)
 | (refine idA ?_;refine m_var rfl rfl rfl rfl rfl rfl rfl ?_)
 | (refine Le.int ?_)
      all_goals first|contradiction|(exfalso;omega)|(rw [List.take_length];exact Le.of_eq rfl)|rfl|skip
end Go.Proofs
