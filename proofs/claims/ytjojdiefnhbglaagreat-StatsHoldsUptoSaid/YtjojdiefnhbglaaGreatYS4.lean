/- Contracts of the document's stats: what is counted by attribute; the plain law: groups are what is filtered out by attribute. -/
import Derived.Test.YtjojdiefnhbglaaGreatYS3
import Derived.Test.YtjojdiefnhbglaaGreatYF3
set_option linter.all false
namespace Go.Proofs
open Go.AL Go.Sort
attribute [local irreducible] Go.AL.W Go.AL.WL Go.AL.WD Go.AL.POp Go.AL.PPOp Go.AL.POpS Go.AL.PC Go.AL.AC Go.AL.YW Go.AL.Ret Go.AL.Le Go.AL.thn Go.AL.inBlk Go.AL.scp
set_option maxHeartbeats 8000000 in
theorem rall_pc [GlobF Tryz.prog] (l : List Dat) (hl : l.length ≤ 1048576) (hs : ∀ d,d ∈ l → d.v.s.length < 9223372036854775808) : PC Tryz.prog 64 [sl9 l] (.tu [sl9 (sortS 1 l),.sc (.int .i64 (if dP (allD l) then 0 else 40))]):=by
  have hsr:=dsort1_pc 1 l (by omega) hs
  have hE : sortS 1 l = if dP (allD l) then dsortL 1 l else []:=rfl
  rw [hE]
  refine PC.of_body Tryz.func64 Tryz.ntmps64 rfl rfl rfl ?_
  repeat' first
 | (apply p1 (hd:=rfl);case hop=>first|(apply D_assign;rfl))
 | refine W_seq ?_
 | refine W_region ?_
 | refine WL_nil ?_
 | refine tn ?_
 | (refine W_block ?_)
  refine W_loopL (X:=Nat) (fun i=>[(0,sl9 l),(4,.sc (.int .i64 (i : Int)))]) (fun _=>[])
    (fun i=>i ≤ l.length ∧ ∀ (j : Nat) (h : j < l.length),j < i → dmayP l[j]) (fun i=>l.length - i) 0 ⟨Nat.zero_le _,fun j h hj=>absurd hj (Nat.not_lt_zero j)⟩ ⟨rfl,rfl,trivial⟩ rfl ?_
  rintro i ⟨hi,hz⟩
  by_cases hil : i < l.length
  · have hm:=dmay1_pc (l[i]'hil) (hs _ (List.getElem_mem _))
    by_cases hc : dmayP (l[i]'hil)
    · rw [← dP_T hc] at hm
      repeat' first
 | (apply p1 (hd:=rfl);case hop=>first|(apply D_move;rfl)|(apply D_assign;rfl)|(apply D_pc hm;rfl;exact .same rfl .nil)|(apply D_int;rfl;rfl;rfl)|(apply D_lenM;rfl)|(apply D_not;rfl)|(apply D_loadW;rfl;rfl)|(apply D_idxAn;rfl;rfl;(first|omega|(simp;done))))
 | refine W_seq ?_
 | refine W_region ?_
 | (refine idC ?_;refine cs rfl (fun _=>?_) (fun _=>?_))
 | refine WL_nil ?_
 | refine tn ?_
 | refine tr ?_
 | refine br ?_
 | refine bn ?_
 | refine te ?_
 | (refine idB ?_;refine bh rfl ?_)
 | refine W_skip ?_
 | refine W_block ?_
 | refine W_exit ?_
 | refine W_ret ?_
 | (refine idR ?_;refine ret2 rfl rfl rfl rfl ?_ ?_)
 | (refine Le.int ?_)
      all_goals first
        | contradiction
        | (exfalso;omega)
        | (refine ⟨rfl,i + 1,⟨by omega,fun j h hj=>?_⟩,by omega,⟨rfl,ieq (wsucc i (by omega)),trivial⟩,rfl⟩
           by_cases e : j = i
           · subst e;exact hc
           · exact hz j h (by omega))
        | skip
    · rw [← dP_F hc] at hm
      rw [← dP_F (fun h=>hc (h _ (List.getElem_mem _))),if_neg (by decide),if_neg (by decide)]
      repeat' first
 | (apply p1 (hd:=rfl);case hop=>first|(apply D_move;rfl)|(apply D_assign;rfl)|(apply D_pc hm;rfl;exact .same rfl .nil)|(apply D_int;rfl;rfl;rfl)|(apply D_lenM;rfl)|(apply D_not;rfl)|(apply D_loadW;rfl;rfl)|(apply D_idxAn;rfl;rfl;(first|omega|(simp;done))))
 | refine W_seq ?_
 | refine W_region ?_
 | (refine idC ?_;refine cs rfl (fun _=>?_) (fun _=>?_))
 | refine WL_nil ?_
 | refine tn ?_
 | refine tr ?_
 | refine br ?_
 | refine bn ?_
 | refine te ?_
 | (refine idB ?_;refine bh rfl ?_)
 | refine W_skip ?_
 | refine W_block ?_
 | refine W_exit ?_
 | refine W_ret ?_
 | (refine idR ?_;refine ret2 rfl rfl rfl rfl ?_ ?_)
 | (refine Le.int ?_)
      all_goals first
        | contradiction
        | (exfalso;omega)
        | exact Le.nil rfl
        | rfl
        | skip
  · rw [← dP_T (allD_iff.2 fun j h=>hz j h (by omega)),if_pos rfl,if_pos rfl]
    repeat' first
 | (apply p1 (hd:=rfl);case hop=>first|(apply D_move;rfl)|(apply D_assign;rfl)|(apply D_pc hsr;rfl;exact .same rfl (.same rfl .nil))|(apply D_int;rfl;rfl;rfl)|(apply D_lenM;rfl)|(apply D_loadW;rfl;rfl)|(apply D_idxAn;rfl;rfl;(first|omega|(simp;done))))
 | refine W_seq ?_
 | refine W_region ?_
 | (refine idC ?_;refine cs rfl (fun _=>?_) (fun _=>?_))
 | refine WL_nil ?_
 | refine tn ?_
 | refine te ?_
 | (refine idB ?_;refine bh rfl ?_)
 | refine W_skip ?_
 | refine W_block ?_
 | refine W_exit ?_
 | refine W_ret ?_
 | (refine idR ?_;refine ret2 rfl rfl rfl rfl ?_ ?_)
 | (refine Le.int ?_)
    all_goals first
      | contradiction
      | (exfalso;omega)
      | exact Le.of_eq rfl
      | rfl
      | skip
def ofA (x : Int) (d : Dat) : Bool:=decide (d.a = x)
def ofF (x : Int) (f : Fac) : Bool:=decide (f.a = x)
noncomputable def attR (D : List Dat) (F : List Fac) (x : Int) : Att:=⟨x,(D.filter (ofA x)).length,addN (D.filter (ofA x)),(insL cmpI ((D.filter (ofA x)).map Dat.e)).length,(valS (D.filter (ofA x))).length,(F.filter (ofF x)).length,(valS (D.filter (ofA x))).headD val0,(valS (D.filter (ofA x))).getLastD val0⟩
noncomputable def attsR (D : List Dat) (F : List Fac) : List Att:=(insL cmpI (D.map Dat.a)).map (attR D F)
theorem insI_congr {l m : List Int} (h : ∀ x,x ∈ l ↔ x ∈ m) : insL cmpI l = insL cmpI m :=
  rise_eq wcI ((insI_rise l).imp fun h=>ltI.2 h) ((insI_rise m).imp fun h=>ltI.2 h) fun x=>by rw [insI_mem,insI_mem,h]
theorem valS_congr {l m : List Dat} (h : ∀ d,d ∈ l ↔ d ∈ m) : valS l = valS m :=
  rise_eq wc_cmpV (sortC_rise wc_cmpV cmpV_zz _) (sortC_rise wc_cmpV cmpV_zz _) fun v=>by
    unfold valS;rw [sortC_mem,sortC_mem,List.mem_map,List.mem_map]
    exact ⟨fun ⟨d,hd,e⟩=>⟨d,(h d).1 hd,e⟩,fun ⟨d,hd,e⟩=>⟨d,(h d).2 hd,e⟩⟩
theorem grpA_all (f : List Dat → Att) : ∀ (n : Nat) (L : List Dat),L.length ≤ n → L.Pairwise (fun a b=>a.a ≤ b.a) → (grpL grA L).map f = (insL cmpI (L.map Dat.a)).map (fun x=>f (L.filter (ofA x)))
  | _,[],_,_=>by rw [grpL_nil];rfl
  | 0,_ :: _,h,_=>by simp at h
  | n + 1,d :: l,h,hs=>by
    obtain ⟨s1,s2⟩:=List.pairwise_cons.1 hs
    have htst : ∀ x : Dat,tst grA d x = ofA d.a x:=fun x=>by unfold tst grA ofA;congr
    have hdw : ∀ y,y ∈ l.dropWhile (ofA d.a) → d.a < y.a:=fun y hy=>by
      have key : ∀ (m : List Dat),m.Pairwise (fun a b=>a.a ≤ b.a) → (∀ y,y ∈ m → d.a ≤ y.a) → ∀ y,y ∈ m.dropWhile (ofA d.a) → d.a < y.a:=by
        intro m
        induction m with
        | nil=>intro _ _ y hy;cases hy
        | cons z m ih =>
          intro hp hle y hy
          rw [List.dropWhile_cons] at hy
          split at hy
          · exact ih (List.pairwise_cons.1 hp).2 (fun y hy=>hle y (.tail _ hy)) y hy
          · rename_i hz
            have hz1 : z.a ≠ d.a:=fun e=>hz (by unfold ofA;exact decide_eq_true e)
            have hz2:=hle z (.head _)
            rcases List.mem_cons.1 hy with rfl|hy
            · omega
            · have:=(List.pairwise_cons.1 hp).1 y hy;omega
      exact key l s2 s1 y hy
    have htw : ∀ y,y ∈ l.takeWhile (ofA d.a) → y.a = d.a:=fun y hy=>by
      have:=mem_tw l hy
      unfold ofA at this;exact of_decide_eq_true this
    have hspl : l.takeWhile (ofA d.a) ++ l.dropWhile (ofA d.a) = l:=List.takeWhile_append_dropWhile
    have hf0 : (d :: l).filter (ofA d.a) = d :: l.takeWhile (ofA d.a):=by
      rw [List.filter_cons,if_pos (by unfold ofA;exact decide_eq_true rfl)]
      congr 1
      conv=>lhs;rw [← hspl]
      rw [List.filter_append,List.filter_eq_self.2 fun y hy=>(by unfold ofA;exact decide_eq_true (htw y hy)),List.filter_eq_nil_iff.2 fun y hy=>(by unfold ofA;have:=hdw y hy;simp;omega),List.append_nil]
    have hkey : insL cmpI ((d :: l).map Dat.a) = d.a :: insL cmpI ((l.dropWhile (ofA d.a)).map Dat.a):=by
      refine rise_eq wcI ((insI_rise _).imp fun h=>ltI.2 h) (List.pairwise_cons.2 ⟨fun x hx=>?_,(insI_rise _).imp fun h=>ltI.2 h⟩) fun x=>?_
      · rw [insI_mem] at hx
        obtain ⟨y,hy,rfl⟩:=List.mem_map.1 hx
        exact ltI.2 (hdw y hy)
      · rw [insI_mem,List.mem_cons,insI_mem,List.map_cons,List.mem_cons]
        constructor
        · rintro (hx|hx)
          · exact .inl hx
          · obtain ⟨y,hy,rfl⟩:=List.mem_map.1 hx
            rw [← hspl] at hy
            rcases List.mem_append.1 hy with hy|hy
            · exact .inl (htw y hy)
            · exact .inr (List.mem_map.2 ⟨y,hy,rfl⟩)
        · rintro (hx|hx)
          · exact .inl hx
          · obtain ⟨y,hy,rfl⟩:=List.mem_map.1 hx
            exact .inr (List.mem_map.2 ⟨y,by rw [← hspl];exact List.mem_append_right _ hy,rfl⟩)
    have hfr : ∀ x,x ∈ insL cmpI ((l.dropWhile (ofA d.a)).map Dat.a) → (d :: l).filter (ofA x) = (l.dropWhile (ofA d.a)).filter (ofA x):=fun x hx=>by
      rw [insI_mem] at hx
      obtain ⟨y,hy,rfl⟩:=List.mem_map.1 hx
      have hlt:=hdw y hy
      rw [List.filter_cons,if_neg (by unfold ofA;simp;omega)]
      conv=>lhs;rw [← hspl]
      rw [List.filter_append,List.filter_eq_nil_iff.2 fun z hz=>(by have:=htw z hz;unfold ofA;simp;omega),List.nil_append]
    have hlen : (l.dropWhile (ofA d.a)).length ≤ n:=by
      have:=congrArg List.length hspl
      rw [List.length_append] at this
      simp only [List.length_cons] at h
      omega
    have hps : (l.dropWhile (ofA d.a)).Pairwise (fun a b=>a.a ≤ b.a):=by
      have : l.Pairwise (fun a b=>a.a ≤ b.a):=s2
      rw [← hspl] at this
      exact (List.pairwise_append.1 this).2.1
    have e1 : l.takeWhile (tst grA d) = l.takeWhile (ofA d.a):=by congr 1;funext x;exact htst x
    have e2 : l.dropWhile (tst grA d) = l.dropWhile (ofA d.a):=by congr 1;funext x;exact htst x
    rw [grpL_cons,List.map_cons,e1,e2,hkey,List.map_cons,hf0,grpA_all f n _ hlen hps]
    congr 1
    exact List.map_congr_left fun x hx=>by rw [hfr x hx]
end Go.Proofs

namespace Go.Proofs
open Go.AL Go.Sort
attribute [local irreducible] Go.AL.W Go.AL.WL Go.AL.WD Go.AL.POp Go.AL.PPOp Go.AL.POpS Go.AL.PC Go.AL.AC Go.AL.YW Go.AL.Ret Go.AL.Le Go.AL.thn Go.AL.inBlk Go.AL.scp
theorem filt_take {α : Type} (q : α → Bool) (l : List α) (i : Nat) (h : i < l.length) : (l.take (i + 1)).filter q = (l.take i).filter q ++ (if q l[i] = true then [l[i]] else []):=by
  rw [List.take_succ_eq_append_getElem h,List.filter_append,List.filter_cons]
  by_cases hq : q l[i] = true <;> simp [hq]
theorem addN_snoc (l : List Dat) (d : Dat) : addN (l ++ [d]) = addN l + (if d.add = true then 1 else 0):=by
  unfold addN
  rw [List.filter_append,List.length_append,List.filter_cons]
  by_cases h : d.add = true <;> simp [h]
theorem insL_cmpV (l : List Val) : insL cmpV l = sortC cmpV l:=fold_sortC wc_cmpV cmpV_zz l
noncomputable def rattsL (l : List Dat) : List Att:=if attsE l = 0 then attsR (dsortL 1 l) ((foldR l).getD []) else []
abbrev xC (x : Int) (n ad fn : Int) : List AV:=[.sc (.int .i64 x),.sc (.int .i64 n),.sc (.int .i64 ad),.sc (.int .i64 0),.sc (.int .i64 0),.sc (.int .i64 fn),.sc (.int .i64 0),.sc (.int .i64 0),str [],.sc (.int .i64 0),.sc (.int .i64 0),str []]
set_option maxHeartbeats 64000000 in
theorem rattrs_pc [GlobF Tryz.prog] (l : List Dat) (hl : l.length < 1048576) (hs : ∀ d,d ∈ l → d.v.s.length < 9223372036854775808) (hrg : rgD l) : PC Tryz.prog 27 [sl9 l] (.tu [.sl none 12 ((rattsL l).map atC),.sc (.int .i64 (attsE l))]):=by
  have hsd:=rall_pc l (by omega) hs
  have hf:=rfold_pc l (by omega) hs hrg
  have hfl:=foldR_len l
  have hL : rattsL l = if attsE l = 0 then attsR (dsortL 1 l) ((foldR l).getD []) else []:=rfl
  have hE : attsE l = if dP (allD l) then (if (foldR l).isSome then 0 else 60) else 40:=rfl
  rw [hL,hE]
  unfold sortS at hsd
  have hdl:=dsortL_len 1 l
  by_cases ha : allD l
  rotate_left 1
  · rw [← dP_F ha] at hsd ⊢
    rw [if_neg (by decide),if_neg (by decide)] at hsd
    refine PC.of_body Tryz.func27 Tryz.ntmps27 rfl rfl rfl ?_
    repeat' first
 | (apply p1 (hd:=rfl);case hop=>first|(apply D_move;rfl)|(apply D_assign;rfl)|(apply D_pc hsd;rfl;exact .same rfl .nil)|(apply D_int;rfl;rfl;rfl)|(apply D_ext;rfl;rfl))
 | refine W_seq ?_
 | refine W_region ?_
 | (refine idC ?_;refine cs rfl (fun _=>?_) (fun _=>?_))
 | refine WL_nil ?_
 | refine tn ?_
 | refine tr ?_
 | refine W_skip ?_
 | refine W_ret ?_
 | (refine idR ?_;refine ret2 rfl rfl rfl rfl ?_ ?_)
 | (refine Le.int ?_)
    all_goals first|contradiction|exact Le.nil rfl|rfl|skip
  rw [← dP_T ha] at hsd ⊢
  rw [if_pos rfl,if_pos rfl] at hsd
  have hDs : ∀ d,d ∈ dsortL 1 l → d.v.s.length < 9223372036854775808:=fun d hd=>hs d ((dsort_mem (by decide) l d).1 hd).1
  cases hF : foldR l with
  | none =>
    rw [hF] at hf
    refine PC.of_body Tryz.func27 Tryz.ntmps27 rfl rfl rfl ?_
    repeat' first
 | (apply p1 (hd:=rfl);case hop=>first|(apply D_move;rfl)|(apply D_assign;rfl)|(apply D_pc hsd;rfl;exact .same rfl .nil)|(apply D_pc hf;rfl;exact .same rfl .nil)|(apply D_int;rfl;rfl;rfl)|(apply D_ext;rfl;rfl))
 | refine W_seq ?_
 | refine W_region ?_
 | (refine idC ?_;refine cs rfl (fun _=>?_) (fun _=>?_))
 | refine WL_nil ?_
 | refine tn ?_
 | refine tr ?_
 | refine W_skip ?_
 | refine W_block ?_
 | refine W_ret ?_
 | (refine idR ?_;refine ret2 rfl rfl rfl rfl ?_ ?_)
 | (refine Le.int ?_)
    all_goals first|contradiction|exact Le.nil rfl|rfl|skip
  | some F =>
    rw [hF] at hf hfl
    simp only [Option.getD_some] at hf hfl
    simp only [Option.getD_some,Option.isSome_some,if_true]
    generalize dsortL 1 l = D at *
    have hnu:=rnumbers_pc (D.map Dat.a) (by rw [List.length_map];omega)
    have hml:=insL_len cmpI (D.map Dat.a) (D.map Dat.a).length (Nat.le_refl _)
    rw [List.take_length,List.length_map] at hml
    have hmem : ∀ x,x ∈ insL cmpI (D.map Dat.a) → ∃ d,d ∈ D ∧ d.a = x:=fun x hx=>by
      rw [insI_mem] at hx
      obtain ⟨d,hd,e⟩:=List.mem_map.1 hx
      exact ⟨d,hd,e⟩
    have hR : attsR D F = (insL cmpI (D.map Dat.a)).map (attR D F):=rfl
    refine PC.of_body Tryz.func27 Tryz.ntmps27 rfl rfl rfl ?_
    repeat' first
 | (apply p1 (hd:=rfl);case hop=>first|(apply D_move;rfl)|(apply D_assign;rfl)|(apply D_pc hsd;rfl;exact .same rfl .nil)|(apply D_pc hf;rfl;exact .same rfl .nil)|(apply D_int;rfl;rfl;rfl)|(apply D_ext;rfl;rfl))
 | refine W_seq ?_
 | refine W_region ?_
 | (refine idC ?_;refine cs rfl (fun _=>?_) (fun _=>?_))
 | refine WL_nil ?_
 | refine tn ?_
 | refine tr ?_
 | refine W_skip ?_
 | refine W_block ?_
 | refine W_ret ?_
 | (refine idR ?_;refine ret2 rfl rfl rfl rfl ?_ ?_)
 | (refine Le.int ?_)
    all_goals try contradiction
    refine W_adopt 8 1 2 rfl ?_
    refine W_loopL (X:=Nat) (fun i=>[(4,sl9 D),(6,sl6 F),(8,.sl (some 0) 1 ((D.take i).map fun d=>iC d.a)),(9,.sc (.int .i64 (i : Int)))]) (fun i=>[.tail ((D.take i).map fun d=>iC d.a).length 1 2])
      (fun i=>i ≤ D.length) (fun i=>D.length - i) 0 (Nat.zero_le _) ⟨rfl,rfl,rfl,rfl,trivial⟩ rfl ?_
    intro i hi
    by_cases hil : i < D.length
    · have hsn : (D.take (i + 1)).map (fun d=>iC d.a) = (D.take i).map (fun d=>iC d.a) ++ [iC (D[i]'hil).a]:=by
        rw [List.take_succ_eq_append_getElem hil,List.map_append];rfl
      have hvi : ((D.take i).map fun d=>iC d.a).length = i:=by rw [List.length_map,List.length_take];omega
      generalize (D.take i).map (fun d=>iC d.a) = VV at *
      repeat' first
 | (apply p1 (hd:=rfl);case hop=>first|(apply D_move;rfl)|(apply D_assign;rfl)|(apply D_load1;rfl)|(apply D_fld;rfl)|(apply D_int;rfl;rfl;rfl)|(apply D_lenM;rfl)|(apply D_idxAn;rfl;rfl;(first|omega|(simp;done)))|(apply D_lit;rfl;rfl;rfl;rfl))
 | refine W_seq ?_
 | refine W_region ?_
 | (refine idC ?_;refine cs rfl (fun _=>?_) (fun _=>?_))
 | refine WL_nil ?_
 | refine tn ?_
 | refine bn ?_
 | refine te ?_
 | (refine idB ?_;refine bh rfl ?_)
 | refine W_skip ?_
 | refine W_block ?_
 | refine W_exit ?_
 | (refine idAp ?_;refine m_app rfl rfl (by first|rfl|assumption|exact get_set (by assumption)|exact get_set (get_set (by assumption))|exact get_set (get_set (get_set (by assumption)))|((repeat first|assumption|exact get_last|(refine get_last2 ?_;focus (simp;done))|apply get_set|apply get_app|(apply get_ne;focus omega));done)) ?_ rfl rfl ?_ ?_ rfl ?_;(first|rfl|focus (simp only [List.length_map,List.length_append,List.length_cons,List.length_nil];omega)|focus (simp;done)|focus (simp;omega));(first|focus (simp only [List.length_map,List.length_append,List.length_cons,List.length_nil];omega)|focus (simp;done)|focus (simp;omega));(first|focus (simp only [List.length_map,List.length_append,List.length_cons,List.length_nil];omega)|focus (simp;done)|focus (simp;omega)))
      all_goals first
        | contradiction
        | (exfalso;omega)
        | (refine ⟨rfl,i + 1,by omega,by omega,⟨rfl,rfl,?_,ieq (wsucc i (by omega)),trivial⟩,?_⟩
           · rw [hsn];rfl
           · rw [hsn,List.length_append];rfl)
        | skip
    have ei : i = D.length:=by omega
    subst ei
    rw [List.take_length]
    rw [show (D.map fun d=>iC d.a) = (D.map Dat.a).map iC by rw [List.map_map];rfl]
    rw [hR]
    have hfl2:=hfl.1
    generalize hN : insL cmpI (D.map Dat.a) = Ns at *
    repeat' first
 | (apply p1 (hd:=rfl);case hop=>first|(apply D_move;rfl)|(apply D_assign;rfl)|(apply D_pc hnu;rfl;exact .tok rfl .nil)|(apply D_load1;rfl)|(apply D_fld;rfl)|(apply D_int;rfl;rfl;rfl)|(apply D_lenM;rfl)|(apply D_idxAn;rfl;rfl;(first|omega|(simp;done)))|(apply D_lit;rfl;rfl;rfl;rfl))
 | refine W_seq ?_
 | refine W_region ?_
 | (refine idC ?_;refine cs rfl (fun _=>?_) (fun _=>?_))
 | refine WL_nil ?_
 | refine tn ?_
 | refine bn ?_
 | refine te ?_
 | (refine idB ?_;refine bh rfl ?_)
 | refine W_skip ?_
 | refine W_block ?_
 | refine W_exit ?_
 | (refine idAp ?_;refine m_app rfl rfl (by first|rfl|assumption|exact get_set (by assumption)|exact get_set (get_set (by assumption))|exact get_set (get_set (get_set (by assumption)))|((repeat first|assumption|exact get_last|(refine get_last2 ?_;focus (simp;done))|apply get_set|apply get_app|(apply get_ne;focus omega));done)) ?_ rfl rfl ?_ ?_ rfl ?_;(first|rfl|focus (simp only [List.length_map,List.length_append,List.length_cons,List.length_nil];omega)|focus (simp;done)|focus (simp;omega));(first|focus (simp only [List.length_map,List.length_append,List.length_cons,List.length_nil];omega)|focus (simp;done)|focus (simp;omega));(first|focus (simp only [List.length_map,List.length_append,List.length_cons,List.length_nil];omega)|focus (simp;done)|focus (simp;omega)))
    all_goals try (exfalso;omega)
    refine W_adopt 10 12 72 rfl ?_
    refine W_ren (rg':=[(4,sl9 D),(6,sl6 F),(8,slI Ns),(10,.sl (some 0) 12 (([] : List Att).map atC)),(11,.sc (.int .i64 0))]) (h':=[.tail 0 12 72]) [1] (rent rfl ⟨⟨_,rfl,.pur⟩,⟨_,rfl,.pur⟩,⟨_,rfl,.pur⟩,⟨_,rfl,.sl rfl⟩,⟨_,rfl,.pur⟩,trivial⟩) ?_
    refine W_loopR (X:=Nat) (fun k=>[(4,sl9 D),(6,sl6 F),(8,slI Ns),(10,.sl (some 0) 12 (((Ns.take k).map (attR D F)).map atC)),(11,.sc (.int .i64 (k : Int)))]) (fun k=>[.tail ((Ns.take k).map (attR D F)).length 12 72])
      (fun k=>k ≤ Ns.length) (fun k=>Ns.length - k) 0 (Nat.zero_le _) ⟨rfl,rfl,rfl,rfl,rfl,trivial⟩ rfl ?_
    intro k hk
    by_cases hkl : k < Ns.length
    rotate_left 1
    · have ek : k = Ns.length:=by omega
      subst ek
      rw [List.take_length]
      generalize Ns.map (attR D F) = R at *
      repeat' first
 | (apply p1 (hd:=rfl);case hop=>first|(apply D_move;rfl)|(apply D_assign;rfl)|(apply D_load1;rfl)|(apply D_int;rfl;rfl;rfl)|(apply D_lenM;rfl)|(apply D_idxAn;rfl;rfl;(first|omega|(simp;done)))|exact D_build rfl)
 | refine W_seq ?_
 | refine W_region ?_
 | (refine idC ?_;refine cs rfl (fun _=>?_) (fun _=>?_))
 | refine WL_nil ?_
 | refine tn ?_
 | refine te ?_
 | (refine idB ?_;refine bh rfl ?_)
 | refine W_skip ?_
 | refine W_block ?_
 | refine W_exit ?_
 | refine W_ret ?_
 | (refine idR ?_;refine ret2 rfl rfl rfl rfl ?_ ?_)
 | (refine idA ?_;refine m_var rfl rfl rfl rfl rfl rfl rfl ?_)
 | (refine Le.int ?_)
      all_goals first
        | contradiction
        | (exfalso;omega)
        | exact Le.tokq rfl
        | rfl
        | skip
    obtain ⟨d0,hd0,hdx⟩:=hmem _ (List.getElem_mem hkl)
    have hsn : (Ns.take (k + 1)).map (attR D F) = (Ns.take k).map (attR D F) ++ [attR D F (Ns[k]'hkl)]:=by
      rw [List.take_succ_eq_append_getElem hkl,List.map_append];rfl
    have hol : ((Ns.take k).map (attR D F)).length = k:=by rw [List.length_map,List.length_take];omega
    generalize (Ns.take k).map (attR D F) = O at *
    repeat' first
 | (refine m_alloc (d:=12) rfl ?_)
 | (apply p1 (hd:=rfl);case hop=>first|(apply D_move;rfl)|(apply D_assign;rfl)|(apply D_load1;rfl)|(apply D_int;rfl;rfl;rfl)|(apply D_lenM;rfl)|(apply D_idxAn;rfl;rfl;(first|omega|(simp;done)))|exact D_build rfl)
 | refine W_seq ?_
 | refine W_region ?_
 | (refine idC ?_;refine cs rfl (fun _=>?_) (fun _=>?_))
 | refine WL_nil ?_
 | refine tn ?_
 | refine te ?_
 | (refine idB ?_;refine bh rfl ?_)
 | refine W_skip ?_
 | refine W_block ?_
 | refine W_exit ?_
 | refine W_ret ?_
 | (refine idR ?_;refine ret2 rfl rfl rfl rfl ?_ ?_)
 | (refine idS ?_;refine pS (S_store rfl rfl rfl rfl rfl rfl rfl) ?_)
 | (refine Le.int ?_)
    all_goals try (exfalso;omega)
    refine W_adopt 13 1 2 rfl ?_
    refine W_adopt 14 3 46 rfl ?_
    refine W_loopL (X:=Nat) (fun i=>[(4,sl9 D),(6,sl6 F),(8,slI Ns),(10,.sl (some 0) 12 (O.map atC)),(11,.sc (.int .i64 (k : Int))),(12,.bp 1 0),(13,.sl (some 2) 1 (((D.take i).filter (ofA (Ns[k]'hkl))).map fun d=>iC d.e)),(14,.sl (some 3) 3 (((D.take i).filter (ofA (Ns[k]'hkl))).map fun d=>vC d.v)),(15,.sc (.int .i64 (i : Int)))])
      (fun i=>[.tail O.length 12 72,.cells (xC (Ns[k]'hkl) (((D.take i).filter (ofA (Ns[k]'hkl))).length : Nat) (addN ((D.take i).filter (ofA (Ns[k]'hkl))) : Nat) 0),.tail (((D.take i).filter (ofA (Ns[k]'hkl))).map fun d=>iC d.e).length 1 2,.tail (((D.take i).filter (ofA (Ns[k]'hkl))).map fun d=>vC d.v).length 3 46])
      (fun i=>i ≤ D.length) (fun i=>D.length - i) 0 (Nat.zero_le _) ⟨rfl,rfl,rfl,rfl,rfl,rfl,rfl,rfl,rfl,trivial⟩ rfl ?_
    intro i hi
    have hGl : ((D.take i).filter (ofA (Ns[k]'hkl))).length ≤ i:=Nat.le_trans (List.length_filter_le _ _) (by rw [List.length_take];omega)
    have hGa : addN ((D.take i).filter (ofA (Ns[k]'hkl))) ≤ ((D.take i).filter (ofA (Ns[k]'hkl))).length:=List.length_filter_le _ _
    by_cases hil : i < D.length
    · have hft:=filt_take (ofA (Ns[k]'hkl)) D i hil
      by_cases hc : (D[i]'hil).a = Ns[k]'hkl
      · rw [if_pos (by unfold ofA;exact decide_eq_true hc)] at hft
        have g1 : Value.bool (bNot (iEq (D[i]'hil).a (Ns[k]'hkl))) = .bool false:=by rw [(iEq_t _ _).mpr hc];simp [bNot]
        generalize (D.take i).filter (ofA (Ns[k]'hkl)) = G at *
        have hsa:=addN_snoc G (D[i]'hil)
        have e1 : (G ++ [D[i]'hil]).map (fun d=>iC d.e) = G.map (fun d=>iC d.e) ++ [iC (D[i]'hil).e]:=List.map_append
        have e2 : (G ++ [D[i]'hil]).map (fun d=>vC d.v) = G.map (fun d=>vC d.v) ++ [vC (D[i]'hil).v]:=List.map_append
        have e3 : (G ++ [D[i]'hil]).length = G.length + 1:=List.length_append
        have hwn : IntKind.i64.wrap ((G.length : Int) + 1) = ((G.length + 1 : Nat) : Int):=wsucc _ (by omega)
        have hwa : IntKind.i64.wrap ((addN G : Int) + 1) = ((addN G + 1 : Nat) : Int):=wsucc _ (by omega)
        repeat' first
 | (apply p1 (hd:=rfl);case hop=>first|(apply D_move;rfl)|(apply D_assign;rfl)|(apply D_load1;rfl)|(apply D_fld;rfl)|(apply D_int;rfl;rfl;rfl)|(apply D_lenM;rfl)|(apply D_loadA;rfl;rfl)|(apply D_idxAn;rfl;rfl;(first|omega|(simp;done)))|(apply D_lit;rfl;rfl;rfl;rfl)|exact D_fldB rfl)
 | refine W_seq ?_
 | refine W_region ?_
 | (refine idC ?_;first|refine c0 rfl ?_|refine cs rfl (fun _=>?_) (fun _=>?_))
 | refine WL_nil ?_
 | refine tn ?_
 | refine bn ?_
 | refine te ?_
 | (refine idB ?_;refine bh rfl ?_)
 | refine W_skip ?_
 | refine W_block ?_
 | refine W_exit ?_
 | (refine idLd ?_;refine p1L (D_loadB1 rfl rfl rfl) rfl ?_)
 | (refine idS ?_;refine pS (S_store rfl rfl rfl rfl rfl rfl rfl) ?_)
 | (refine idAp ?_;refine m_app rfl rfl (by first|rfl|assumption|exact get_set (by assumption)|exact get_set (get_set (by assumption))|exact get_set (get_set (get_set (by assumption)))|((repeat first|assumption|exact get_last|(refine get_last2 ?_;focus (simp;done))|apply get_set|apply get_app|(apply get_ne;focus omega));done)) ?_ rfl rfl ?_ ?_ rfl ?_;(first|rfl|focus (simp only [List.length_map,List.length_append,List.length_cons,List.length_nil];omega)|focus (simp;done)|focus (simp;omega));(first|focus (simp only [List.length_map,List.length_append,List.length_cons,List.length_nil];omega)|focus (simp;done)|focus (simp;omega));(first|focus (simp only [List.length_map,List.length_append,List.length_cons,List.length_nil];omega)|focus (simp;done)|focus (simp;omega)))
 | (refine idAp ?_;refine m_appB rfl rfl rfl (by first|rfl|assumption|exact get_set (by assumption)|exact get_set (get_set (by assumption))|exact get_set (get_set (get_set (by assumption)))|((repeat first|assumption|exact get_last|(refine get_last2 ?_;focus (simp;done))|apply get_set|apply get_app|(apply get_ne;focus omega));done)) ?_ rfl rfl ?_ ?_ rfl ?_;(first|rfl|focus (simp only [List.length_map,List.length_append,List.length_cons,List.length_nil];omega)|focus (simp;done)|focus (simp;omega));(first|focus (simp only [List.length_map,List.length_append,List.length_cons,List.length_nil];omega)|focus (simp;done)|focus (simp;omega));(first|focus (simp only [List.length_map,List.length_append,List.length_cons,List.length_nil];omega)|focus (simp;done)|focus (simp;omega)))
 | (refine idW ?_;refine W_draw0 rfl ?_)
 | (apply d1 (hd:=rfl);case hop=>first|(apply D_move;rfl)|exact D_sc (D_int rfl rfl rfl) g1|(apply D_load1;rfl)|(apply D_fld;rfl)|(apply D_idxAn;rfl;rfl;(first|omega|(simp;done))))
 | (refine WD_nil (by first|decide +kernel|kernel_rfl|rfl) ?_)
        all_goals first
          | contradiction
          | (exfalso;omega)
          | (rw [if_pos (by assumption)] at hsa
             refine ⟨rfl,i + 1,by omega,by omega,⟨rfl,rfl,rfl,rfl,rfl,rfl,?_,?_,ieq (wsucc i (by omega)),trivial⟩,?_⟩
             · rw [hft,e1];rfl
             · rw [hft,e2];rfl
             · rw [hft,e1,e2,e3,hsa,← hwn,← hwa,List.length_append,List.length_append];rfl)
          | (rw [if_neg (by rw [(by assumption : (D[i]'hil).add = false)];decide),Nat.add_zero] at hsa
             refine ⟨rfl,i + 1,by omega,by omega,⟨rfl,rfl,rfl,rfl,rfl,rfl,?_,?_,ieq (wsucc i (by omega)),trivial⟩,?_⟩
             · rw [hft,e1];rfl
             · rw [hft,e2];rfl
             · rw [hft,e1,e2,e3,hsa,← hwn,List.length_append,List.length_append];rfl)
          | skip
      · rw [if_neg (by unfold ofA;simpa using hc),List.append_nil] at hft
        have g1 : Value.bool (bNot (iEq (D[i]'hil).a (Ns[k]'hkl))) = .bool true:=by rw [(iEq_f _ _).mpr hc];simp [bNot]
        repeat' first
 | (apply p1 (hd:=rfl);case hop=>first|(apply D_move;rfl)|(apply D_assign;rfl)|(apply D_int;rfl;rfl;rfl)|(apply D_lenM;rfl))
 | refine W_seq ?_
 | refine W_region ?_
 | (refine idC ?_;first|refine c1 rfl ?_|refine cs rfl (fun _=>?_) (fun _=>?_))
 | refine WL_nil ?_
 | refine tn ?_
 | refine te ?_
 | (refine idB ?_;refine bh rfl ?_)
 | refine W_skip ?_
 | refine W_block ?_
 | refine W_exit ?_
 | (refine idW ?_;refine W_draw0 rfl ?_)
 | (apply d1 (hd:=rfl);case hop=>first|(apply D_move;rfl)|exact D_sc (D_int rfl rfl rfl) g1|(apply D_load1;rfl)|(apply D_fld;rfl)|(apply D_idxAn;rfl;rfl;(first|omega|(simp;done))))
 | (refine WD_nil (by first|decide +kernel|kernel_rfl|rfl) ?_)
        all_goals first
          | contradiction
          | (exfalso;omega)
          | (refine ⟨rfl,i + 1,by omega,by omega,⟨rfl,rfl,rfl,rfl,rfl,rfl,?_,?_,ieq (wsucc i (by omega)),trivial⟩,?_⟩
             · rw [hft];rfl
             · rw [hft];rfl
             · rw [hft])
          | skip
    have ei : i = D.length:=by omega
    subst ei
    rw [List.take_length] at *
    have hA : attR D F (Ns[k]'hkl) = ⟨Ns[k]'hkl,((D.filter (ofA (Ns[k]'hkl))).length : Nat),(addN (D.filter (ofA (Ns[k]'hkl))) : Nat),(insL cmpI ((D.filter (ofA (Ns[k]'hkl))).map Dat.e)).length,(valS (D.filter (ofA (Ns[k]'hkl)))).length,(F.filter (ofF (Ns[k]'hkl))).length,(valS (D.filter (ofA (Ns[k]'hkl)))).headD val0,(valS (D.filter (ofA (Ns[k]'hkl)))).getLastD val0⟩:=rfl
    have hGm : d0 ∈ D.filter (ofA (Ns[k]'hkl)):=List.mem_filter.2 ⟨hd0,by unfold ofA;exact decide_eq_true hdx⟩
    have hGs : ∀ v,v ∈ (D.filter (ofA (Ns[k]'hkl))).map Dat.v → v.s.length < 9223372036854775808:=fun v hv=>by
      obtain ⟨d,hd,rfl⟩:=List.mem_map.1 hv
      exact hDs d (List.mem_filter.1 hd).1
    have hGp : 0 < (D.filter (ofA (Ns[k]'hkl))).length:=List.length_pos_of_mem hGm
    generalize D.filter (ofA (Ns[k]'hkl)) = G at *
    have hvp:=valS_ne hGp
    have hvl:=valS_len G
    have hvq : (valS G).length - 1 < (valS G).length:=by omega
    have hnu2:=rnumbers_pc (G.map Dat.e) (by rw [List.length_map];omega)
    have hvs:=vsort1_pc (G.map Dat.v) (by rw [List.length_map];omega) hGs
    rw [insL_cmpV,show sortC cmpV (G.map Dat.v) = valS G from rfl] at hvs
    rw [headD_at _ val0 hvp,lastD_at _ val0 hvp] at hA
    have hil2:=insL_len cmpI (G.map Dat.e) (G.map Dat.e).length (Nat.le_refl _)
    rw [List.take_length,List.length_map] at hil2
    rw [show (G.map fun d=>iC d.e) = (G.map Dat.e).map iC by rw [List.map_map];rfl,show (G.map fun d=>vC d.v) = (G.map Dat.v).map vC by rw [List.map_map];rfl]
    generalize valS G = VS at *
    generalize insL cmpI (G.map Dat.e) = Es at *
    generalize addN G = AN at *
    repeat' first
 | (apply p1 (hd:=rfl);case hop=>first|(apply D_move;rfl)|(apply D_assign;rfl)|(apply D_load1;rfl)|(apply D_fld;rfl)|(apply D_int;rfl;rfl;rfl)|(apply D_lenM;rfl)|(apply D_loadA;rfl;rfl)|(apply D_idxAn;rfl;rfl;(first|omega|(simp;done)))|(apply D_lit;rfl;rfl;rfl;rfl)|exact D_fldB rfl)
 | refine W_seq ?_
 | refine W_region ?_
 | (refine idC ?_;refine cs rfl (fun _=>?_) (fun _=>?_))
 | refine WL_nil ?_
 | refine tn ?_
 | refine bn ?_
 | refine te ?_
 | (refine idB ?_;refine bh rfl ?_)
 | refine W_skip ?_
 | refine W_block ?_
 | refine W_exit ?_
 | (refine idLd ?_;refine p1L (D_loadB1 rfl rfl rfl) rfl ?_)
 | (refine idS ?_;refine pS (S_store rfl rfl rfl rfl rfl rfl rfl) ?_)
 | (refine idAp ?_;refine m_app rfl rfl (by first|rfl|assumption|exact get_set (by assumption)|exact get_set (get_set (by assumption))|exact get_set (get_set (get_set (by assumption)))|((repeat first|assumption|exact get_last|(refine get_last2 ?_;focus (simp;done))|apply get_set|apply get_app|(apply get_ne;focus omega));done)) ?_ rfl rfl ?_ ?_ rfl ?_;(first|rfl|focus (simp only [List.length_map,List.length_append,List.length_cons,List.length_nil];omega)|focus (simp;done)|focus (simp;omega));(first|focus (simp only [List.length_map,List.length_append,List.length_cons,List.length_nil];omega)|focus (simp;done)|focus (simp;omega));(first|focus (simp only [List.length_map,List.length_append,List.length_cons,List.length_nil];omega)|focus (simp;done)|focus (simp;omega)))
 | (refine idAp ?_;refine m_appB rfl rfl rfl (by first|rfl|assumption|exact get_set (by assumption)|exact get_set (get_set (by assumption))|exact get_set (get_set (get_set (by assumption)))|((repeat first|assumption|exact get_last|(refine get_last2 ?_;focus (simp;done))|apply get_set|apply get_app|(apply get_ne;focus omega));done)) ?_ rfl rfl ?_ ?_ rfl ?_;(first|rfl|focus (simp only [List.length_map,List.length_append,List.length_cons,List.length_nil];omega)|focus (simp;done)|focus (simp;omega));(first|focus (simp only [List.length_map,List.length_append,List.length_cons,List.length_nil];omega)|focus (simp;done)|focus (simp;omega));(first|focus (simp only [List.length_map,List.length_append,List.length_cons,List.length_nil];omega)|focus (simp;done)|focus (simp;omega)))
 | (refine idW ?_;refine W_draw0 rfl ?_)
 | (apply d1 (hd:=rfl);case hop=>first|(apply D_move;rfl)|(apply D_load1;rfl)|(apply D_fld;rfl)|(apply D_int;rfl;rfl;rfl)|(apply D_idxAn;rfl;rfl;(first|omega|(simp;done))))
 | (refine WD_nil (by first|decide +kernel|kernel_rfl|rfl) ?_)
    all_goals try (exfalso;omega)
    refine W_loopL (X:=Nat) (fun i=>[(4,sl9 D),(6,sl6 F),(8,slI Ns),(10,.sl (some 0) 12 (O.map atC)),(11,.sc (.int .i64 (k : Int))),(12,.bp 1 0),(13,.sl (some 2) 1 ((G.map Dat.e).map iC)),(14,.sl (some 3) 3 ((G.map Dat.v).map vC)),(16,.sc (.int .i64 (i : Int)))])
      (fun i=>[.tail O.length 12 72,.cells (xC (Ns[k]'hkl) (G.length : Nat) (AN : Nat) (((F.take i).filter (ofF (Ns[k]'hkl))).length : Nat)),.tail ((G.map Dat.e).map iC).length 1 2,.tail ((G.map Dat.v).map vC).length 3 46])
      (fun i=>i ≤ F.length) (fun i=>F.length - i) 0 (Nat.zero_le _) ⟨rfl,rfl,rfl,rfl,rfl,rfl,rfl,rfl,rfl,trivial⟩ rfl ?_
    intro i hi
    have hFl : ((F.take i).filter (ofF (Ns[k]'hkl))).length ≤ i:=Nat.le_trans (List.length_filter_le _ _) (by rw [List.length_take];omega)
    by_cases hil : i < F.length
    · have hft:=filt_take (ofF (Ns[k]'hkl)) F i hil
      by_cases hc : (F[i]'hil).a = Ns[k]'hkl
      · rw [if_pos (by unfold ofF;exact decide_eq_true hc)] at hft
        have g1 : Value.bool (iEq (F[i]'hil).a (Ns[k]'hkl)) = .bool true:=by rw [(iEq_t _ _).mpr hc]
        generalize (F.take i).filter (ofF (Ns[k]'hkl)) = H at *
        have hwn : IntKind.i64.wrap ((H.length : Int) + 1) = ((H.length + 1 : Nat) : Int):=wsucc _ (by omega)
        repeat' first
 | (apply p1 (hd:=rfl);case hop=>first|(apply D_move;rfl)|(apply D_assign;rfl)|(apply D_int;rfl;rfl;rfl)|(apply D_lenM;rfl)|exact D_fldB rfl)
 | refine W_seq ?_
 | refine W_region ?_
 | (refine idC ?_;first|refine c1 rfl ?_|refine cs rfl (fun _=>?_) (fun _=>?_))
 | refine WL_nil ?_
 | refine tn ?_
 | refine bn ?_
 | refine te ?_
 | (refine idB ?_;refine bh rfl ?_)
 | refine W_skip ?_
 | refine W_block ?_
 | refine W_exit ?_
 | (refine idLd ?_;refine p1L (D_loadB1 rfl rfl rfl) rfl ?_)
 | (refine idS ?_;refine pS (S_store rfl rfl rfl rfl rfl rfl rfl) ?_)
 | (refine idW ?_;refine W_draw0 rfl ?_)
 | (apply d1 (hd:=rfl);case hop=>first|(apply D_move;rfl)|exact D_sc (D_int rfl rfl rfl) g1|(apply D_load1;rfl)|(apply D_fld;rfl)|(apply D_idxAn;rfl;rfl;(first|omega|(simp;done))))
 | (refine WD_nil (by first|decide +kernel|kernel_rfl|rfl) ?_)
        all_goals first
          | contradiction
          | (exfalso;omega)
          | (refine ⟨rfl,i + 1,by omega,by omega,⟨rfl,rfl,rfl,rfl,rfl,rfl,rfl,rfl,ieq (wsucc i (by omega)),trivial⟩,?_⟩
             rw [hft,List.length_append,List.length_singleton,← hwn];rfl)
          | skip
      · rw [if_neg (by unfold ofF;simpa using hc),List.append_nil] at hft
        have g1 : Value.bool (iEq (F[i]'hil).a (Ns[k]'hkl)) = .bool false:=by rw [(iEq_f _ _).mpr hc]
        repeat' first
 | (apply p1 (hd:=rfl);case hop=>first|(apply D_move;rfl)|(apply D_assign;rfl)|(apply D_int;rfl;rfl;rfl)|(apply D_lenM;rfl))
 | refine W_seq ?_
 | refine W_region ?_
 | (refine idC ?_;first|refine c0 rfl ?_|refine cs rfl (fun _=>?_) (fun _=>?_))
 | refine WL_nil ?_
 | refine tn ?_
 | refine bn ?_
 | refine te ?_
 | (refine idB ?_;refine bh rfl ?_)
 | refine W_skip ?_
 | refine W_block ?_
 | refine W_exit ?_
 | (refine idW ?_;refine W_draw0 rfl ?_)
 | (apply d1 (hd:=rfl);case hop=>first|(apply D_move;rfl)|exact D_sc (D_int rfl rfl rfl) g1|(apply D_load1;rfl)|(apply D_fld;rfl)|(apply D_idxAn;rfl;rfl;(first|omega|(simp;done))))
 | (refine WD_nil (by first|decide +kernel|kernel_rfl|rfl) ?_)
        all_goals first
          | contradiction
          | (exfalso;omega)
          | (refine ⟨rfl,i + 1,by omega,by omega,⟨rfl,rfl,rfl,rfl,rfl,rfl,rfl,rfl,ieq (wsucc i (by omega)),trivial⟩,?_⟩
             rw [hft])
          | skip
    have ei : i = F.length:=by omega
    subst ei
    rw [List.take_length] at *
    generalize (F.filter (ofF (Ns[k]'hkl))).length = FN at *
    have hsub : Value.int .i64 (IntKind.i64.wrap ((VS.length : Int) - 1)) = .int .i64 ((VS.length - 1 : Nat) : Int):=by rw [w64 _ (by omega) (by omega)];congr 1;omega
    repeat' first
 | (refine m_app (d:=148) (els:=O.map atC) (els':=[atC (attR D F (Ns[k]'hkl))]) rfl (by rw [hA];rfl) rfl (by simp) rfl rfl (by simp only [List.length_map,List.length_cons,List.length_nil];omega) (by simp only [List.length_map,List.length_cons,List.length_nil];omega) rfl ?_)
 | (apply p1 (hd:=rfl);case hop=>first|(apply D_move;rfl)|(apply D_assign;rfl)|exact D_sc (D_int rfl rfl rfl) hsub|(apply D_pc hnu2;rfl;exact .tok rfl .nil)|(apply D_pc hvs;rfl;exact .tok rfl .nil)|(apply D_int;rfl;rfl;rfl)|(apply D_lenM;rfl)|(apply D_loadW;rfl;rfl)|(apply D_idxAn;rfl;rfl;(first|omega|(simp;done)))|(apply D_lit;rfl;rfl;rfl;rfl)|exact D_fldB rfl)
 | refine W_seq ?_
 | refine W_region ?_
 | (refine idC ?_;refine cs rfl (fun _=>?_) (fun _=>?_))
 | refine WL_nil ?_
 | refine tn ?_
 | refine bn ?_
 | refine te ?_
 | (refine idB ?_;refine bh rfl ?_)
 | refine W_skip ?_
 | refine W_block ?_
 | refine W_exit ?_
 | (refine idLd ?_;first|refine p1L (D_loadB1 rfl rfl rfl) rfl ?_|refine p1L (D_loadBA rfl rfl rfl) rfl ?_)
 | (refine idS ?_;refine pS (S_store rfl rfl rfl rfl rfl rfl rfl) ?_)
 | (refine idW ?_;refine W_draw0 rfl ?_)
 | (apply d1 (hd:=rfl);case hop=>first|(apply D_move;rfl)|(apply D_load1;rfl)|(apply D_fld;rfl)|(apply D_int;rfl;rfl;rfl)|(apply D_idxAn;rfl;rfl;(first|omega|(simp;done))))
 | (refine WD_nil (by first|decide +kernel|kernel_rfl|rfl) ?_)
    all_goals first
      | contradiction
      | (exfalso;omega)
      | (refine ⟨rfl,k + 1,by omega,by omega,[0],rent ?_ ⟨⟨_,rfl,.pur⟩,⟨_,rfl,.pur⟩,⟨_,rfl,.pur⟩,⟨_,rfl,?_⟩,⟨_,rfl,?_⟩,trivial⟩⟩
         · first|(rw [hsn,List.length_append,List.length_map];rfl)|(rw [hsn,List.length_append];simp)|skip
         · rw [hsn,List.map_append];exact .sl rfl
         · rw [wsucc k (by omega)];exact .pur)
      | skip
end Go.Proofs
