/- The law StatsHolds, plain: what a curve says at an instant. -/
import Derived.Test.YtjojdiefnhbglaaGreatYC3
set_option linter.all false
namespace Go.Proofs
open Go.AL Go.Sort
attribute [local irreducible] Go.AL.W Go.AL.WL Go.AL.WD Go.AL.POp Go.AL.PPOp Go.AL.POpS Go.AL.PC Go.AL.AC Go.AL.YW Go.AL.Ret Go.AL.Le Go.AL.thn Go.AL.inBlk Go.AL.scp
def hldF (C : List Pt) (t : Int) : Int:=C.foldl (fun n p=>if p.at_ ≤ t then p.m else n) 0
theorem hldF_snoc (C : List Pt) (p : Pt) (t : Int) : hldF (C ++ [p]) t = if p.at_ ≤ t then p.m else hldF C t:=by
  unfold hldF;rw [List.foldl_append];rfl
theorem lastM_push (S : Int → Int) (o : List Pt) (a : Int) : lastM (pushP S o a) = S a:=by
  unfold pushP
  split
  · next h=>exact h.symm
  · rw [lastM_snoc]
theorem curveL_mem (S : Int → Int) : ∀ (n : Nat) (K : List Int),K.length = n → ∀ p,p ∈ curveL S K → p.at_ ∈ K ∧ p.m = S p.at_
  | 0,K,h,p,hp=>by
    have : K = []:=List.eq_nil_of_length_eq_zero h
    subst this;simp [curveL] at hp
  | n + 1,K,h,p,hp=>by
    rcases snocG K with rfl | ⟨m,a,rfl⟩
    · simp at h
    rw [curveL_snoc] at hp
    have ih:=curveL_mem S n m (by simpa using h)
    unfold pushP at hp
    split at hp
    · have:=ih p hp;exact ⟨List.mem_append_left _ this.1,this.2⟩
    · rcases List.mem_append.1 hp with hp|hp
      · have:=ih p hp;exact ⟨List.mem_append_left _ this.1,this.2⟩
      · rw [List.mem_singleton.1 hp];exact ⟨by simp,rfl⟩
def okC (C : List Pt) : Prop:=C.Pairwise (fun p q=>p.at_ < q.at_) ∧ (∀ (i : Nat) (h : i + 1 < C.length),C[i].m ≠ C[i + 1].m) ∧ (∀ h : 0 < C.length,C[0].m ≠ 0)
theorem curveL_ok (S : Int → Int) : ∀ (n : Nat) (K : List Int),K.length = n → K.Pairwise (fun a b=>a < b) → okC (curveL S K)
  | 0,K,h,_=>by
    have : K = []:=List.eq_nil_of_length_eq_zero h
    subst this
    exact ⟨.nil,fun i h=>absurd h (by simp [curveL]),fun h=>absurd h (by simp [curveL])⟩
  | n + 1,K,h,hs=>by
    rcases snocG K with rfl | ⟨m,a,rfl⟩
    · simp at h
    obtain ⟨s1,_,s3⟩:=List.pairwise_append.1 hs
    obtain ⟨i1,i2,i3⟩:=curveL_ok S n m (by simpa using h) s1
    have hm:=curveL_mem S m.length m rfl
    rw [curveL_snoc]
    generalize curveL S m = C at *
    unfold pushP
    split
    · exact ⟨i1,i2,i3⟩
    · next hne =>
      refine ⟨List.pairwise_append.2 ⟨i1,List.pairwise_singleton _ _,fun p hp q hq=>?_⟩,fun i hi=>?_,fun h0=>?_⟩
      · rw [List.mem_singleton.1 hq];exact s3 _ (hm p hp).1 a (by simp)
      · rw [List.length_append,List.length_singleton] at hi
        by_cases hc : i + 1 < C.length
        · rw [List.getElem_append_left (by omega),List.getElem_append_left hc];exact i2 i hc
        · have e : i + 1 = C.length:=by omega
          rw [List.getElem_append_left (by omega),List.getElem_append_right (by omega)]
          simp only [show i + 1 - C.length = 0 by omega,List.getElem_singleton]
          intro hx
          apply hne
          rcases snocG C with rfl | ⟨C',p,rfl⟩
          · simp at e
          · rw [lastM_snoc,← hx,List.getElem_append_right (by simp at e;omega)]
            simp
      · rcases snocG C with rfl | ⟨C',p,rfl⟩
        · simp only [List.nil_append,List.getElem_singleton]
          intro hx;apply hne;rw [hx];rfl
        · rw [List.getElem_append_left (by simp)];exact i3 (by simp)
theorem hld_all {C : List Pt} {t : Int} (h : ∀ p,p ∈ C → p.at_ ≤ t) : hldF C t = lastM C:=by
  rcases snocG C with rfl | ⟨C',p,rfl⟩
  · rfl
  · rw [hldF_snoc,lastM_snoc,if_pos (h p (by simp))]
theorem hld_curve (S : Int → Int) (t : Int) : ∀ (n : Nat) (K : List Int),K.length = n → K.Pairwise (fun a b=>a < b) → hldF (curveL S K) t = lastM (curveL S (K.filter fun a=>decide (a ≤ t)))
  | 0,K,h,_=>by
    have : K = []:=List.eq_nil_of_length_eq_zero h
    subst this;rfl
  | n + 1,K,h,hs=>by
    rcases snocG K with rfl | ⟨m,a,rfl⟩
    · simp at h
    obtain ⟨s1,_,s3⟩:=List.pairwise_append.1 hs
    have ih:=hld_curve S t n m (by simpa using h) s1
    by_cases ha : a ≤ t
    · have hf : (m ++ [a]).filter (fun a=>decide (a ≤ t)) = m ++ [a]:=List.filter_eq_self.2 fun x hx=>by
        rcases List.mem_append.1 hx with hx|hx
        · have:=s3 x hx a (by simp);exact decide_eq_true (by omega)
        · rw [List.mem_singleton.1 hx];exact decide_eq_true ha
      rw [hf]
      refine hld_all fun p hp=>?_
      have:=(curveL_mem S _ (m ++ [a]) rfl p hp).1
      rcases List.mem_append.1 this with hx|hx
      · have:=s3 _ hx a (by simp);omega
      · rw [List.mem_singleton.1 hx];exact ha
    · rw [List.filter_append,show [a].filter (fun a=>decide (a ≤ t)) = [] by simp [ha],List.append_nil,← ih,curveL_snoc]
      unfold pushP
      split
      · rfl
      · rw [hldF_snoc,if_neg ha]
theorem atsL_mem {l : List Fac} {x : Int} : x ∈ atsL l ↔ ∃ f,f ∈ l ∧ ∃ s,s ∈ f.sp ∧ (x = s.f ∨ x = s.t):=by
  unfold atsL
  rw [List.mem_flatMap]
  constructor
  · rintro ⟨f,hf,hx⟩
    obtain ⟨s,hs,hx⟩:=List.mem_flatMap.1 hx
    exact ⟨f,hf,s,hs,by simpa [atsS] using hx⟩
  · rintro ⟨f,hf,s,hs,hx⟩
    exact ⟨f,hf,List.mem_flatMap.2 ⟨s,hs,by simpa [atsS] using hx⟩⟩
theorem cnt_same {l : List Fac} {a b : Int} (hab : a ≤ b) (h : ∀ x,x ∈ atsL l → ¬ (a < x ∧ x ≤ b)) : cntL l a = cntL l b:=by
  unfold cntL
  congr 1
  refine List.filter_congr fun f hf=>?_
  have e : inS f.sp a ↔ inS f.sp b:=by
    unfold inS
    constructor
    · rintro ⟨s,hs,h1,h2⟩
      have:=h s.t (atsL_mem.2 ⟨f,hf,s,hs,.inr rfl⟩)
      exact ⟨s,hs,by omega,by omega⟩
    · rintro ⟨s,hs,h1,h2⟩
      have:=h s.f (atsL_mem.2 ⟨f,hf,s,hs,.inl rfl⟩)
      exact ⟨s,hs,by omega,by omega⟩
  rw [show inS f.sp a = inS f.sp b from propext e]
theorem cnt_zero {l : List Fac} {t : Int} (h : ∀ x,x ∈ atsL l → ¬ x ≤ t) : cntL l t = 0:=by
  unfold cntL
  rw [List.length_eq_zero_iff,List.filter_eq_nil_iff]
  intro f hf
  rw [dP_t]
  rintro ⟨s,hs,h1,h2⟩
  exact h s.f (atsL_mem.2 ⟨f,hf,s,hs,.inl rfl⟩) h1
theorem curveR_eq (l : List Fac) : curveR l (insL cmpI (atsL l)) = curveL (fun a=>(cntL l a : Int)) ((insL cmpI (atsL l)).filter fun a=>decide (a ≠ tMx)):=curve_skip _ _
theorem hld_is (l : List Fac) (t : Int) (ht : t < tMx) : hldF (curveR l (insL cmpI (atsL l))) t = (cntL l t : Int):=by
  have hs : ((insL cmpI (atsL l)).filter fun a=>decide (a ≠ tMx)).Pairwise (fun a b=>a < b):=(insI_rise _).filter _
  have hmem : ∀ x,x ∈ (((insL cmpI (atsL l)).filter fun a=>decide (a ≠ tMx)).filter fun a=>decide (a ≤ t)) ↔ x ∈ atsL l ∧ x ≤ t:=fun x=>by
    rw [List.mem_filter,List.mem_filter,insI_mem]
    simp only [decide_eq_true_eq]
    exact ⟨fun h=>⟨h.1.1,h.2⟩,fun h=>⟨⟨h.1,fun e=>by rw [e] at h;exact absurd h.2 (by omega)⟩,h.2⟩⟩
  rw [curveR_eq,hld_curve _ t _ _ rfl hs]
  have hs2:=hs.filter (fun a=>decide (a ≤ t))
  generalize (((insL cmpI (atsL l)).filter fun a=>decide (a ≠ tMx)).filter fun a=>decide (a ≤ t)) = K at *
  rcases snocG K with rfl | ⟨m,a,rfl⟩
  · rw [cnt_zero fun x hx hxt=>by have:=(hmem x).2 ⟨hx,hxt⟩;simp at this];rfl
  · rw [curveL_snoc,lastM_push]
    have ha:=(hmem a).1 (by simp)
    rw [cnt_same ha.2 fun x hx hxa=>?_]
    obtain ⟨_,_,s3⟩:=List.pairwise_append.1 hs2
    have hx2:=(hmem x).2 ⟨hx,hxa.2⟩
    rcases List.mem_append.1 hx2 with hx2|hx2
    · have:=s3 x hx2 a (by simp);omega
    · rw [List.mem_singleton] at hx2;omega
theorem curveR_mem {l : List Fac} {p : Pt} (h : p ∈ curveR l (insL cmpI (atsL l))) : p.m = (cntL l p.at_ : Int):=by
  rw [curveR_eq] at h;exact (curveL_mem _ _ _ rfl p h).2
theorem curveR_ok (l : List Fac) : okC (curveR l (insL cmpI (atsL l))):=by
  have hs : ((insL cmpI (atsL l)).filter fun a=>decide (a ≠ tMx)).Pairwise (fun a b=>a < b):=(insI_rise _).filter _
  rw [curveR_eq];exact curveL_ok _ _ _ rfl hs
theorem atL_len {l : List Fac} (h : allF l) (t : Int) : (atL l t).length = cntL l t:=by
  unfold atL cntL
  congr 1
  refine List.filter_congr fun f hf=>?_
  rw [show (SetP f.sp ∧ inS f.sp t) = inS f.sp t from propext ⟨fun h=>h.2,fun h'=>⟨(may_of h hf).2.2,h'⟩⟩]
set_option maxHeartbeats 4000000 in
theorem holds_pc [GlobF Tryz.prog] (C : List Pt) (t : Int) (hl : C.length < 4611686018427387904) : PC Tryz.prog 32 [slP C,.sc (.int .i64 t)] (.sc (.int .i64 (hldF C t))):=by
  refine PC.of_body Tryz.func32 Tryz.ntmps32 rfl rfl rfl ?_
  repeat' first
 | (apply p1 (hd:=rfl);case hop=>first|(apply D_move;rfl)|(apply D_assign;rfl)|(apply D_lenM;rfl))
 | refine W_seq ?_
 | refine W_region ?_
 | refine WL_nil ?_
 | refine tn ?_
 | (refine W_block ?_)
  refine W_loopR (X:=Nat) (fun i=>[(1,.sc (.int .i64 t)),(5,.sc (.int .i64 (hldF (C.take i) t))),(8,slP C),(9,.sc (.int .i64 (C.length : Int))),(10,.sc (.int .i64 (i : Int)))]) (fun _=>[])
    (fun i=>i ≤ C.length) (fun i=>C.length - i) 0 (Nat.zero_le _) ⟨rfl,rfl,rfl,rfl,rfl,trivial⟩ rfl ?_
  intro i hi
  by_cases hil : i < C.length
  · have hsn : hldF (C.take (i + 1)) t = if (C[i]'hil).at_ ≤ t then (C[i]'hil).m else hldF (C.take i) t:=by
      rw [List.take_succ_eq_append_getElem hil,hldF_snoc]
    repeat' first
 | (apply p1 (hd:=rfl);case hop=>first|(apply D_move;rfl)|(apply D_assign;rfl)|(apply D_load1;rfl)|(apply D_fld;rfl)|(apply D_int;rfl;rfl;rfl)|(apply D_loadW;rfl;rfl)|(apply D_idxAn;rfl;rfl;(first|omega|(simp;done))))
 | refine W_seq ?_
 | refine W_region ?_
 | (refine idC ?_;refine cs rfl (fun _=>?_) (fun _=>?_))
 | refine WL_nil ?_
 | refine tn ?_
 | refine bn ?_
 | refine te ?_
 | (refine idB ?_;refine bh rfl ?_)
 | refine W_skip ?_
 | refine W_block ?_
 | refine W_exit ?_
 | refine W_ret ?_
 | (refine idR ?_;refine ret1 rfl rfl rfl ?_)
 | (refine idA ?_;refine m_var rfl rfl rfl rfl rfl rfl rfl ?_)
 | (refine Le.int ?_)
    all_goals first
      | contradiction
      | (exfalso;omega)
      | (refine ⟨rfl,i + 1,by omega,by omega,[],renN ⟨⟨_,rfl,.pur⟩,⟨_,rfl,?_⟩,⟨_,rfl,.pur⟩,⟨_,rfl,.pur⟩,⟨_,rfl,by rw [wsucc i (by omega)];exact .pur⟩,trivial⟩⟩
         rw [hsn];first|(rw [if_pos (by assumption)];exact .pur)|(rw [if_neg (by omega)];exact .pur))
      | skip
  · have e : i = C.length:=by omega
    subst e
    rw [List.take_length]
    repeat' first
 | (apply p1 (hd:=rfl);case hop=>first|(apply D_move;rfl)|(apply D_assign;rfl)|(apply D_load1;rfl)|(apply D_fld;rfl)|(apply D_int;rfl;rfl;rfl)|(apply D_loadW;rfl;rfl)|(apply D_idxAn;rfl;rfl;(first|omega|(simp;done))))
 | refine W_seq ?_
 | refine W_region ?_
 | (refine idC ?_;refine cs rfl (fun _=>?_) (fun _=>?_))
 | refine WL_nil ?_
 | refine tn ?_
 | refine bn ?_
 | refine te ?_
 | (refine idB ?_;refine bh rfl ?_)
 | refine W_skip ?_
 | refine W_block ?_
 | refine W_exit ?_
 | refine W_ret ?_
 | (refine idR ?_;refine ret1 rfl rfl rfl ?_)
 | (refine idA ?_;refine m_var rfl rfl rfl rfl rfl rfl rfl ?_)
 | (refine Le.int ?_)
    all_goals first
      | contradiction
      | (exfalso;omega)
      | rfl
      | skip
end Go.Proofs

namespace Go.Proofs
open Go.AL Go.Sort
attribute [local irreducible] Go.AL.W Go.AL.WL Go.AL.WD Go.AL.POp Go.AL.PPOp Go.AL.POpS Go.AL.PC Go.AL.AC Go.AL.YW Go.AL.Ret Go.AL.Le Go.AL.thn Go.AL.inBlk Go.AL.scp
set_option maxHeartbeats 16000000 in
theorem statsHolds_pc [GlobF Tryz.prog] (l : List Fac) (t : Int) (hw : (l.map wtF).sum ≤ 1048576) (hr : ∀ f,f ∈ l → ∀ s,s ∈ f.sp → s.t ≤ tMx) (ht : t ≤ tMx) :
    PC Tryz.prog 7 [sl6 l,.sc (.int .i64 t)] (.sc (.bool true)):=by
  obtain ⟨hll,hb⟩:=wtF_sl hw
  have hg:=rgreat6_pc l hw
  have hal:=alive29_pc
  refine PC.of_body Tryz.func7 Tryz.ntmps7 rfl rfl rfl ?_
  by_cases c1 : 3000 < gr6 l
  · rw [if_pos c1] at hg
    repeat' first
 | (apply p1 (hd:=rfl);case hop=>first|(apply D_move;rfl)|(apply D_assign;rfl)|(apply D_pc hg;rfl;exact .same rfl .nil)|(apply D_pc hal;rfl;exact .nil)|(apply D_pickT;rfl;rfl)|(apply D_pickF;rfl;rfl)|(apply D_int;rfl;rfl;rfl)|(apply D_not;rfl))
 | refine W_seq ?_
 | refine W_region ?_
 | (refine idC ?_;refine cs rfl (fun _=>?_) (fun _=>?_))
 | refine WL_nil ?_
 | (refine idG ?_;first|refine g0f rfl rfl rfl ?_|refine gr rfl rfl ?_|refine gs rfl rfl (fun _=>?_) (fun _=>?_))
 | refine tn ?_
 | refine tr ?_
 | refine W_skip ?_
 | refine W_ret ?_
 | (refine idR ?_;refine ret1 rfl rfl rfl ?_)
 | (refine Le.bool ?_)
    all_goals first|rfl|contradiction|(exfalso;omega)|skip
  rw [if_neg c1] at hg
  by_cases c2 : t = tMx
  · have hT : Value.bool (iEq t 9223372036854775807) = .bool true:=by rw [(iEq_t _ _).mpr c2]
    have h00 : Value.bool (iLt 0 0) = .bool false:=by rw [(iLt_f _ _).mpr (by omega)]
    repeat' first
 | (apply p1 (hd:=rfl);case hop=>first|(apply D_move;rfl)|(apply D_assign;rfl)|exact D_sc (D_int rfl rfl rfl) hT|exact D_sc (D_int rfl rfl rfl) h00|(apply D_pc hg;rfl;exact .same rfl .nil)|(apply D_pc hal;rfl;exact .nil)|(apply D_pickT;rfl;rfl)|(apply D_pickF;rfl;rfl))
 | refine W_seq ?_
 | refine W_region ?_
 | (refine idC ?_;refine cs rfl (fun _=>?_) (fun _=>?_))
 | refine WL_nil ?_
 | (refine idG ?_;first|refine g0f rfl rfl rfl ?_|refine gr rfl rfl ?_)
 | refine tn ?_
 | refine tr ?_
 | refine W_skip ?_
 | refine W_ret ?_
 | (refine idR ?_;refine ret1 rfl rfl rfl ?_)
 | (refine Le.bool ?_)
    all_goals first|rfl|contradiction|(exfalso;omega)|skip
  have ht2 : t < tMx:=by omega
  have hT : Value.bool (iEq t 9223372036854775807) = .bool false:=by rw [(iEq_f _ _).mpr c2]
  have h00 : Value.bool (iLt 0 0) = .bool false:=by rw [(iLt_f _ _).mpr (by omega)]
  obtain ⟨w1,w2⟩:=gr6_few c1
  have hbf : bndF l:=fun f hf=>⟨(hb f hf).1,by have:=(hb f hf).2;omega⟩
  have q1:=curve_pc l w1 hbf (fun f hf=>(w2 f hf).1) hr
  have q2:=fun t=>fat_pc l t (by omega) hb
  by_cases hA : allF l
  rotate_left 1
  · rw [← dP_F hA,if_neg (by decide),if_neg (by decide)] at q1
    simp only [← dP_F hA] at q2
    repeat' first
 | (apply p1 (hd:=rfl);case hop=>first|(apply D_move;rfl)|(apply D_assign;rfl)|exact D_sc (D_int rfl rfl rfl) hT|exact D_sc (D_int rfl rfl rfl) h00|(apply D_pc hg;rfl;exact .same rfl .nil)|(apply D_pc hal;rfl;exact .nil)|(apply D_pc q1;rfl;exact .same rfl .nil)|(apply D_pc (q2 _);rfl;exact .same rfl (.same rfl .nil))|(apply D_pickT;rfl;rfl)|(apply D_pickF;rfl;rfl)|(apply D_int;rfl;rfl;rfl)|(apply D_lenM;rfl)|(apply D_ext;rfl;rfl)|(apply D_not;rfl))
 | refine W_seq ?_
 | refine W_region ?_
 | (refine idC ?_;refine cs rfl (fun _=>?_) (fun _=>?_))
 | refine WL_nil ?_
 | (refine idG ?_;first|refine g0t rfl rfl rfl ?_|refine g0f rfl rfl rfl ?_|refine gr rfl rfl ?_|refine gs rfl rfl (fun _=>?_) (fun _=>?_))
 | refine tn ?_
 | refine tr ?_
 | refine W_skip ?_
 | refine W_block ?_
 | refine W_ret ?_
 | (refine idR ?_;refine ret1 rfl rfl rfl ?_)
 | (refine Le.bool ?_)
    all_goals first|rfl|contradiction|(exfalso;omega)|exact (iEq_t _ _).mpr rfl|skip
  rw [← dP_T hA] at q1
  simp only [← dP_T hA] at q2
  rw [if_pos rfl,if_pos rfl] at q1
  simp only [if_true] at q2
  obtain ⟨o1,o2,o3⟩:=curveR_ok l
  have hh:=hld_is l t ht2
  have hm : ∀ p,p ∈ curveR l (insL cmpI (atsL l)) → p.m = (cntL l p.at_ : Int):=fun p hp=>curveR_mem hp
  have hCl : (curveR l (insL cmpI (atsL l))).length ≤ 1500 * 150:=by
    have h1:=curveR_len l (insL cmpI (atsL l))
    have h2:=insL_len cmpI (atsL l) (atsL l).length (Nat.le_refl _)
    rw [List.take_length] at h2
    have h3:=atsL_len l (fun f hf=>(w2 f hf).1)
    omega
  generalize curveR l (insL cmpI (atsL l)) = C at *
  have q3:=holds_pc C t (by omega)
  rw [hh] at q3
  have hlen : ∀ t,(((atL l t).map fC).length : Int) = (cntL l t : Int):=fun t=>by rw [List.length_map,atL_len hA]
  have hne : Value.bool (bNot (iEq (cntL l t : Int) ((atL l t).length : Int))) = .bool false:=by rw [atL_len hA,(iEq_t _ _).mpr rfl];simp [bNot]
  repeat' first
 | (apply p1 (hd:=rfl);case hop=>first|(apply D_move;rfl)|(apply D_assign;rfl)|exact D_sc (D_int rfl rfl rfl) hT|exact D_sc (D_int rfl rfl rfl) h00|exact D_sc (D_int rfl rfl rfl) hne|(apply D_pc hg;rfl;exact .same rfl .nil)|(apply D_pc hal;rfl;exact .nil)|(apply D_pc q1;rfl;exact .same rfl .nil)|(apply D_pc (q2 _);rfl;exact .same rfl (.same rfl .nil))|(apply D_pc q3;rfl;exact .same rfl (.same rfl .nil))|(apply D_pickT;rfl;rfl)|(apply D_pickF;rfl;rfl)|(apply D_int;rfl;rfl;rfl)|(apply D_lenM;rfl)|(apply D_ext;rfl;rfl)|(apply D_not;rfl))
 | refine W_seq ?_
 | refine W_region ?_
 | (refine idC ?_;first|refine c0 rfl ?_|refine cs rfl (fun _=>?_) (fun _=>?_))
 | refine WL_nil ?_
 | (refine idG ?_;first|refine g0t rfl rfl rfl ?_|refine g0f rfl rfl rfl ?_|refine gr rfl rfl ?_|refine gs rfl rfl (fun _=>?_) (fun _=>?_))
 | refine tn ?_
 | refine tr ?_
 | refine W_skip ?_
 | refine W_block ?_
 | refine W_ret ?_
 | (refine idR ?_;refine ret1 rfl rfl rfl ?_)
 | (refine Le.bool ?_)
  all_goals first|contradiction|(exfalso;omega)|skip
  refine W_loopR (X:=Nat) (fun i=>[(0,sl6 l),(5,.sc (.bool true)),(6,slP C),(60,.sc (.int .i64 (C.length : Int))),(61,.sc (.int .i64 (i : Int)))]) (fun _=>[])
    (fun i=>i ≤ C.length) (fun i=>C.length - i) 0 (Nat.zero_le _) ⟨rfl,rfl,rfl,rfl,rfl,trivial⟩ rfl ?_
  intro i hi
  by_cases hil : i < C.length
  rotate_left 1
  · repeat' first
 | (apply p1 (hd:=rfl);case hop=>first|(apply D_move;rfl)|(apply D_assign;rfl)|(apply D_load1;rfl)|(apply D_fld;rfl)|(apply D_int;rfl;rfl;rfl)|(apply D_idxAn;rfl;rfl;(first|omega|(simp;done))))
 | refine W_seq ?_
 | refine W_region ?_
 | (refine idC ?_;first|refine c0 rfl ?_|refine cs rfl (fun _=>?_) (fun _=>?_))
 | refine WL_nil ?_
 | refine tn ?_
 | refine tr ?_
 | refine br ?_
 | refine te ?_
 | (refine idB ?_;refine bh rfl ?_)
 | refine W_skip ?_
 | refine W_block ?_
 | refine W_exit ?_
 | refine W_ret ?_
 | (refine idR ?_;refine ret1 rfl rfl rfl ?_)
 | refine Le.bool ?_
 | (refine idW ?_;refine W_draw0 rfl ?_)
 | (apply d1 (hd:=rfl);case hop=>first|(apply D_move;rfl)|(apply D_load1;rfl)|(apply D_fld;rfl)|(apply D_pickT;rfl;rfl)|(apply D_pickF;rfl;rfl)|(apply D_int;rfl;rfl;rfl)|(apply D_idxAn;rfl;rfl;(first|omega|(simp;done)))|(apply D_idxA;rfl;rfl;omega;(first|omega|(simp;done)|(simp;omega))))
 | (refine idDg ?_;first|refine dg0t rfl rfl rfl ?_|refine dg0f rfl rfl rfl ?_|refine dg0u rfl rfl rfl ?_|refine dgr rfl rfl ?_|refine dgs rfl rfl (fun _=>?_) (fun _=>?_))
 | (refine WD_nil (by first|decide +kernel|kernel_rfl|rfl) ?_)
    all_goals first
      | contradiction
      | (exfalso;omega)
      | rfl
      | skip
  have hmi:=hm _ (List.getElem_mem hil)
  have g1 : Value.bool (iLt (C[i]'hil).m 0) = .bool false:=by rw [(iLt_f _ _).mpr (by omega)]
  have g2 : Value.bool (bNot (iEq ((atL l (C[i]'hil).at_).length : Int) (C[i]'hil).m)) = .bool false:=by rw [atL_len hA,hmi,(iEq_t _ _).mpr rfl];simp [bNot]
  by_cases h0 : i = 0
  · subst h0
    have g3 : Value.bool (iEq (C[0]'hil).m 0) = .bool false:=by rw [(iEq_f _ _).mpr (o3 hil)]
    repeat' first
 | (apply p1 (hd:=rfl);case hop=>first|(apply D_move;rfl)|(apply D_assign;rfl)|exact D_sc (D_int rfl rfl rfl) g2|(apply D_pc (q2 _);rfl;exact .same rfl (.same rfl .nil))|(apply D_load1;rfl)|(apply D_fld;rfl)|(apply D_pickT;rfl;rfl)|(apply D_pickF;rfl;rfl)|(apply D_int;rfl;rfl;rfl)|(apply D_lenM;rfl)|(apply D_ext;rfl;rfl)|(apply D_idxAn;rfl;rfl;(first|omega|(simp;done))))
 | refine W_seq ?_
 | refine W_region ?_
 | (refine idC ?_;first|refine c0 rfl ?_|refine cs rfl (fun _=>?_) (fun _=>?_))
 | refine WL_nil ?_
 | (refine idG ?_;first|refine g0f rfl rfl rfl ?_|refine gr rfl rfl ?_|refine gs rfl rfl (fun _=>?_) (fun _=>?_))
 | refine tn ?_
 | refine tr ?_
 | refine br ?_
 | refine bn ?_
 | refine te ?_
 | (refine idB ?_;refine bh rfl ?_)
 | refine W_skip ?_
 | refine W_block ?_
 | refine W_exit ?_
 | refine W_ret ?_
 | (refine idR ?_;refine ret1 rfl rfl rfl ?_)
 | refine Le.bool ?_
 | (refine idW ?_;refine W_draw0 rfl ?_)
 | (apply d1 (hd:=rfl);case hop=>first|(apply D_move;rfl)|exact D_sc (D_int rfl rfl rfl) g1|exact D_sc (D_int rfl rfl rfl) g3|(apply D_load1;rfl)|(apply D_fld;rfl)|(apply D_pickT;rfl;rfl)|(apply D_pickF;rfl;rfl)|(apply D_int;rfl;rfl;rfl)|(apply D_idxAn;rfl;rfl;(first|omega|(simp;done)))|(apply D_idxA;rfl;rfl;omega;(first|omega|(simp;done)|(simp;omega))))
 | (refine idDg ?_;first|refine dg0t rfl rfl rfl ?_|refine dg0f rfl rfl rfl ?_|refine dg0u rfl rfl rfl ?_|refine dgr rfl rfl ?_|refine dgs rfl rfl (fun _=>?_) (fun _=>?_))
 | (refine WD_nil (by first|decide +kernel|kernel_rfl|rfl) ?_)
    all_goals first
      | contradiction
      | (exfalso;omega)
      | (refine ⟨rfl,0 + 1,by omega,by omega,[],renN ⟨⟨_,rfl,.pur⟩,⟨_,rfl,.pur⟩,⟨_,rfl,.pur⟩,⟨_,rfl,.pur⟩,⟨_,rfl,?_⟩,trivial⟩⟩
         exact .pur)
      | skip
  · have e1 : i - 1 + 1 = i:=by omega
    have k1 : (C[i - 1]'(by omega)).at_ < (C[i]'hil).at_:=List.pairwise_iff_getElem.1 o1 (i - 1) i (by omega) hil (by omega)
    have k2 : (C[i - 1]'(by omega)).m ≠ (C[i]'hil).m:=by have:=o2 (i - 1) (by omega);simpa only [e1] using this
    have g3 : Value.bool (iEq (i : Int) 0) = .bool false:=by rw [(iEq_f _ _).mpr (by omega)]
    have g4 : Value.bool (iEq (C[i - 1]'(by omega)).m (C[i]'hil).m) = .bool false:=by rw [(iEq_f _ _).mpr k2]
    have hsb : Value.int .i64 (IntKind.i64.wrap ((i : Int) - 1)) = .int .i64 ((i - 1 : Nat) : Int):=by rw [w64 _ (by omega) (by omega)];congr 1;omega
    repeat' first
 | (apply p1 (hd:=rfl);case hop=>first|(apply D_move;rfl)|(apply D_assign;rfl)|exact D_sc (D_int rfl rfl rfl) g2|(apply D_pc (q2 _);rfl;exact .same rfl (.same rfl .nil))|(apply D_load1;rfl)|(apply D_fld;rfl)|(apply D_pickT;rfl;rfl)|(apply D_pickF;rfl;rfl)|(apply D_int;rfl;rfl;rfl)|(apply D_lenM;rfl)|(apply D_ext;rfl;rfl)|(apply D_idxAn;rfl;rfl;(first|omega|(simp;done))))
 | refine W_seq ?_
 | refine W_region ?_
 | (refine idC ?_;first|refine c0 rfl ?_|refine cs rfl (fun _=>?_) (fun _=>?_))
 | refine WL_nil ?_
 | (refine idG ?_;first|refine g0f rfl rfl rfl ?_|refine gr rfl rfl ?_|refine gs rfl rfl (fun _=>?_) (fun _=>?_))
 | refine tn ?_
 | refine tr ?_
 | refine br ?_
 | refine bn ?_
 | refine te ?_
 | (refine idB ?_;refine bh rfl ?_)
 | refine W_skip ?_
 | refine W_block ?_
 | refine W_exit ?_
 | refine W_ret ?_
 | (refine idR ?_;refine ret1 rfl rfl rfl ?_)
 | refine Le.bool ?_
 | (refine idW ?_;refine W_draw0 rfl ?_)
 | (apply d1 (hd:=rfl);case hop=>first|(apply D_move;rfl)|exact D_sc (D_int rfl rfl rfl) hsb|exact D_sc (D_int rfl rfl rfl) g1|exact D_sc (D_int rfl rfl rfl) g3|exact D_sc (D_int rfl rfl rfl) g4|(apply D_load1;rfl)|(apply D_fld;rfl)|(apply D_pickT;rfl;rfl)|(apply D_pickF;rfl;rfl)|(apply D_int;rfl;rfl;rfl)|(apply D_idxAn;rfl;rfl;(first|omega|(simp;done))))
 | (refine idDg ?_;first|refine dg0t rfl rfl rfl ?_|refine dg0f rfl rfl rfl ?_|refine dg0u rfl rfl rfl ?_|refine dgr rfl rfl ?_|refine dgs rfl rfl (fun _=>?_) (fun _=>?_))
 | (refine WD_nil (by first|decide +kernel|kernel_rfl|rfl) ?_)
    all_goals first
      | contradiction
      | (exfalso;omega)
      | (refine ⟨rfl,i + 1,by omega,by omega,[],renN ⟨⟨_,rfl,.pur⟩,⟨_,rfl,.pur⟩,⟨_,rfl,.pur⟩,⟨_,rfl,.pur⟩,⟨_,rfl,?_⟩,trivial⟩⟩
         rw [wsucc i (by omega)];exact .pur)
      | skip
end Go.Proofs
