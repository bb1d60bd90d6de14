/- Contracts of index's facts, the program's: the facts of a prefix and a view. -/
import Derived.Test.YtjojdiefnhbglaaGreatYI7
import Derived.Test.YtjojdiefnhbglaaGreatYF3
import Derived.Test.YtjojdiefnhbglaaGreatYF4
import Derived.Test.YtjojdiefnhbglaaGreatOps33
set_option linter.all false
namespace Go.Proofs
open Go.AL Go.Sort
attribute [local irreducible] Go.AL.W Go.AL.WL Go.AL.WD Go.AL.POp Go.AL.PPOp Go.AL.POpS Go.AL.PC Go.AL.AC Go.AL.YW Go.AL.Ret Go.AL.Le Go.AL.thn Go.AL.inBlk Go.AL.scp
abbrev asD (f : Fac) : Dat:=⟨f.e,f.a,f.v,0,false,0,0⟩
def cmpIF (o : Int) (f g : Fac) : Int:=cmpD o (asD f) (asD g)
theorem wc_cmpIF (o : Int) : WC (cmpIF o):=(wc_cmpD o).comap asD
theorem cmpIF_z {o : Int} {f g : Fac} (h : cmpIF o f g = 0) : f.e = g.e ∧ f.a = g.a ∧ f.v = g.v:=by
  have:=cmpD_z o _ _ h
  exact ⟨congrArg Dat.e this,congrArg Dat.a this,congrArg Dat.v this⟩
theorem cmpIF_ne {o : Int} {f g : Fac} (h : cmpF f g < 0) : cmpIF o f g ≠ 0:=fun e=>by
  obtain ⟨h1,h2,h3⟩:=cmpIF_z e
  obtain ⟨e1,a1,v1,s1⟩:=f
  obtain ⟨e2,a2,v2,s2⟩:=g
  simp only at h1 h2 h3
  subst h1;subst h2;subst h3
  have h4 : cmpF ⟨e1,a1,v1,s1⟩ ⟨e1,a1,v1,s1⟩ = 0:=wc_cmpF.refl _
  have h5 : cmpF ⟨e1,a1,v1,s1⟩ ⟨e1,a1,v1,s2⟩ = cmpF ⟨e1,a1,v1,s1⟩ ⟨e1,a1,v1,s1⟩:=rfl
  omega
def insF (o : Int) (out : List Fac) (f : Fac) : List Fac:=out.takeWhile (fun g=>decide (cmpIF o g f < 0)) ++ [f] ++ out.dropWhile (fun g=>decide (cmpIF o g f < 0))
def sortIF (o : Int) (F : List Fac) : List Fac:=F.foldl (insF o) []
theorem insF_perm (o : Int) (out : List Fac) (f : Fac) : (insF o out f).Perm (f :: out):=by
  unfold insF
  rw [List.append_assoc,List.singleton_append]
  refine List.perm_middle.trans ?_
  rw [List.takeWhile_append_dropWhile]
theorem dw_head {p : Fac → Bool} : ∀ {l : List Fac} {x : Fac} {t : List Fac},l.dropWhile p = x :: t → p x = false
  | [],x,t,h=>by simp at h
  | y :: l,x,t,h=>by
    rw [List.dropWhile_cons] at h
    split at h
    · exact dw_head h
    · rename_i hy;cases h;simpa using hy
theorem tw_all {p : Fac → Bool} : ∀ (l : List Fac) {a : Fac},a ∈ l.takeWhile p → p a = true
  | [],a,h=>by simp at h
  | x :: l,a,h=>by
    rw [List.takeWhile_cons] at h
    by_cases hx : p x = true
    · rw [if_pos hx] at h
      rcases List.mem_cons.1 h with rfl|h
      · exact hx
      · exact tw_all l h
    · rw [if_neg hx] at h;simp at h
theorem insF_rise {o : Int} {out : List Fac} {f : Fac} (hr : Rise (cmpIF o) out) (hn : ∀ g,g ∈ out → cmpIF o g f ≠ 0) : Rise (cmpIF o) (insF o out f):=by
  have hw:=wc_cmpIF o
  unfold insF
  have hsplit : out.takeWhile (fun g=>decide (cmpIF o g f < 0)) ++ out.dropWhile (fun g=>decide (cmpIF o g f < 0)) = out:=List.takeWhile_append_dropWhile
  have h1 : ∀ g,g ∈ out.takeWhile (fun g=>decide (cmpIF o g f < 0)) → cmpIF o g f < 0:=fun g hg=>by have:=tw_all _ hg;simpa using this
  have hm2 : ∀ g,g ∈ out.dropWhile (fun g=>decide (cmpIF o g f < 0)) → g ∈ out:=fun g hg=>by rw [← hsplit];exact List.mem_append.2 (.inr hg)
  unfold Rise at *
  rw [← hsplit] at hr
  obtain ⟨r1,r2,r3⟩:=List.pairwise_append.1 hr
  have h2 : ∀ g,g ∈ out.dropWhile (fun g=>decide (cmpIF o g f < 0)) → cmpIF o f g < 0:=fun g hg=>by
    cases hd : out.dropWhile (fun g=>decide (cmpIF o g f < 0)) with
    | nil=>rw [hd] at hg;cases hg
    | cons x t =>
      have hx:=dw_head hd
      have hx2 : cmpIF o f x < 0:=by
        have a1:=hn x (hm2 x (by rw [hd];exact .head _))
        have a2:=hw.anti f x
        simp at hx;omega
      rw [hd] at hg r2
      rcases List.mem_cons.1 hg with rfl|hg
      · exact hx2
      · exact hw.lt (by omega) (by have:=(List.pairwise_cons.1 r2).1 g hg;omega : cmpIF o x g ≤ 0) (.inl hx2)
  refine List.pairwise_append.2 ⟨List.pairwise_append.2 ⟨r1,List.pairwise_singleton _ _,fun a ha b hb=>?_⟩,r2,fun a ha b hb=>?_⟩
  · rw [List.mem_singleton.1 hb];exact h1 a ha
  · rcases List.mem_append.1 ha with ha|ha
    · exact r3 a ha b hb
    · rw [List.mem_singleton.1 ha];exact h2 b hb
def dstF (o : Int) (F : List Fac) : Prop:=F.Pairwise fun a b=>cmpIF o a b ≠ 0
theorem riseF_dst {o : Int} {F : List Fac} (h : riseF F) : dstF o F:=h.imp fun h=>cmpIF_ne h
theorem foldl_ins {o : Int} : ∀ (F out : List Fac),Rise (cmpIF o) out → (∀ g,g ∈ out → ∀ f,f ∈ F → cmpIF o g f ≠ 0) → dstF o F → Rise (cmpIF o) (F.foldl (insF o) out) ∧ (F.foldl (insF o) out).Perm (out ++ F)
  | [],out,hr,_,_=>⟨hr,by simp⟩
  | f :: F,out,hr,hn,hd=>by
    obtain ⟨d1,d2⟩:=List.pairwise_cons.1 hd
    have hp:=insF_perm o out f
    obtain ⟨r1,r2⟩:=foldl_ins F (insF o out f) (insF_rise hr fun g hg=>hn g hg f (.head _)) (fun g hg x hx=>by
      rcases List.mem_cons.1 ((hp.mem_iff).1 hg) with rfl|hg
      · exact d1 x hx
      · exact hn g hg x (.tail _ hx)) d2
    refine ⟨r1,r2.trans ?_⟩
    exact (hp.append_right F).trans (by simpa using (List.perm_middle (a:=f) (l₁:=out) (l₂:=F)).symm)
theorem sortIF_rise {o : Int} {F : List Fac} (h : dstF o F) : Rise (cmpIF o) (sortIF o F):=(foldl_ins F [] List.Pairwise.nil (fun g hg=>by cases hg) h).1
theorem sortIF_perm {o : Int} {F : List Fac} (h : dstF o F) : (sortIF o F).Perm F:=(foldl_ins F [] List.Pairwise.nil (fun g hg=>by cases hg) h).2
theorem sortIF_eq {o : Int} {F m : List Fac} (h : dstF o F) (hp : m.Perm F) (hs : m.Pairwise fun a b=>ltOf (cmpIF o) b a = false) : m = sortIF o F:=by
  have hw:=wc_cmpIF o
  have hm : dstF o m:=(hp.pairwise_iff (fun {a b} hab e=>hab (hw.sym e))).2 h
  refine rise_eq hw (List.Pairwise.imp₂ (fun a b h1 h2=>?_) hs hm) (sortIF_rise h) fun x=>(hp.trans (sortIF_perm h).symm).mem_iff
  have a1:=hw.anti a b
  simp [ltOf] at h1
  have a2:=hw.anti b a
  omega
set_option maxHeartbeats 4000000 in
theorem facts1_pc [GlobF Tryz.prog] (f : Fac) : PC Tryz.prog 47 [eF f] (eD (asD f)):=by
  refine PC.of_body Tryz.func47 Tryz.ntmps47 rfl rfl rfl ?_
  repeat' first
 | (apply p1 (hd:=rfl);case hop=>first|(apply D_load1;rfl)|(apply D_fld;rfl)|(apply D_loadA;rfl;rfl)|(apply D_box;rfl;rfl)|exact D_build rfl)
 | refine W_seq ?_
 | refine W_region ?_
 | refine WL_nil ?_
 | refine tn ?_
 | refine W_ret ?_
 | (refine idR ?_;first|refine rL1 rfl (by first|exact trivial|exact ⟨rfl,trivial⟩) (by exact ResO.cellBA rfl rfl rfl) ?_)
 | (refine idA ?_;refine m_alloc rfl ?_)
 | (refine idS ?_;refine pS (S_store rfl rfl rfl rfl rfl rfl rfl) ?_)
  all_goals first|exact Le.of_eq rfl|rfl|skip
set_option maxHeartbeats 4000000 in
theorem facts2_pc [GlobF Tryz.prog] (o : Int) (ho : 1 ≤ o ∧ o ≤ 4) (f g : Fac) : PC Tryz.prog 49 [eF f,eF g,.ep [.sc (.int .i64 o)],.ep [.sc (.func (.func 47) #[] #[])]] (.sc (.int .i64 (cmpIF o f g))):=by
  have hd:=dcmp_pc o (asD f) (asD g)
  rw [if_pos ho] at hd
  refine PC.of_body Tryz.func49 Tryz.ntmps49 rfl rfl rfl ?_
  repeat' first
 | (apply p1 (hd:=rfl);case hop=>first|(apply D_assign;rfl)|(apply D_box;rfl;rfl))
 | refine W_seq ?_
 | refine W_region ?_
 | refine WL_nil ?_
 | refine tn ?_
 | refine W_ret ?_
 | (refine idR ?_;refine ret1 rfl rfl rfl ?_)
 | refine Le.int ?_
 | (refine idW ?_;refine W_draw0 rfl ?_)
 | (apply d1 (hd:=rfl);case hop=>first|(apply D_assign;rfl)|(apply D_pc (facts1_pc f);rfl;exact .same rfl .nil)|(apply D_pc (facts1_pc g);rfl;exact .same rfl .nil)|(apply D_pc hd;rfl;exact .same rfl (.same rfl (.same rfl .nil)))|(apply D_load1;rfl)|(apply D_loadW;rfl;rfl))
 | (refine WD_nil (by first|decide +kernel|kernel_rfl|rfl) ?_)
  all_goals first|rfl|skip
theorem sortIF_ac [GlobF Tryz.prog] {h : List AObj} {r : Nat} {l : List Fac} {sp : List AV} (o : Int) (ho : 1 ≤ o ∧ o ≤ 4) (hd : dstF o l) (hr : h[r]? = some (.cells ((l.map fC).flatten ++ sp))) (hne : 0 < l.length) (hl : l.length < 4611686018427387904) :
    AC Tryz.prog 48 [.mr r 0 l.length,.fn (.func 49) [] [.ep [.sc (.int .i64 o)],.ep [.sc (.func (.func 47) #[] #[])]]] h (fun v h'=>v = .tu [] ∧ h' = h.set r (.cells (((sortIF o l).map fC).flatten ++ sp))):=by
  have hw:=wc_cmpIF o
  refine AC.mono (sortG_ac Tryz.laysSF Tryz.isAgg54 Tryz.sizeOf54 fC (fun _=>rfl) (fun a x hx=>?_) (fun a=>inferInstance) (cmpIF o) hw.swo 49 [.ep [.sc (.int .i64 o)],.ep [.sc (.func (.func 47) #[] #[])]] _
    (fun G v hv=>fn_inv hv ⟨Le.of_eq rfl,Le.of_eq rfl,trivial⟩) (fun x y=>facts2_pc o ho x y) (fun i j hi hj h1 h2=>?_) hr hne hl) ?_
  · simp only [List.mem_cons,List.not_mem_nil,or_false] at hx
    rcases hx with rfl|rfl|rfl|rfl|rfl|rfl <;> rfl
  · have key : ∀ i j (hi : i < l.length) (hj : j < l.length),i < j → ltOf (cmpIF o) l[i] l[j] = false → ltOf (cmpIF o) l[j] l[i] = false → False:=fun i j hi hj hij h1 h2=>by
      have h3:=List.pairwise_iff_getElem.1 hd i j hi hj hij
      have a1:=hw.anti l[j] l[i]
      simp [ltOf] at h1 h2
      omega
    rcases Nat.lt_trichotomy i j with h|h|h
    · exact (key i j hi hj h h1 h2).elim
    · exact h
    · exact (key j i hj hi h h2 h1).elim
  · rintro v h' ⟨rfl,m,hp,hs,rfl⟩
    rw [sortIF_eq hd hp hs];exact ⟨rfl,rfl⟩
theorem sortIF0_pc [GlobF Tryz.prog] (o : Int) : PC Tryz.prog 48 [.sl none 6 [],.fn (.func 49) [] [.ep [.sc (.int .i64 o)],.ep [.sc (.func (.func 47) #[] #[])]]] (.tu []):=sort_none_pc Tryz.laysSF 6 _
theorem fC_row {l : List Fac} : ∀ e,e ∈ l.map fC → e.length = 6:=fun e he=>by
  obtain ⟨p,_,rfl⟩:=List.mem_map.1 he;rfl
noncomputable def factsE (o : Int) (p : List Prt) (v : Vw) (L : List Dat) : Int:=if datsE o p v ≠ 0 then datsE o p v else if 3 < p.length ∨ v.no = true then 2 else if (foldR (datsL o p v L)).isSome then 0 else 60
noncomputable def factsU (o : Int) (p : List Prt) (v : Vw) (L : List Dat) : List Fac:=if v.one = true then atL ((foldR (datsL o p v L)).getD []) v.at_ else (foldR (datsL o p v L)).getD []
noncomputable def factsL (o : Int) (p : List Prt) (v : Vw) (L : List Dat) : List Fac:=if factsE o p v L = 0 then sortIF o (factsU o p v L) else []
theorem datsL_sub {o : Int} {p : List Prt} {v : Vw} {L : List Dat} {d : Dat} (h : d ∈ datsL o p v L) : d ∈ L:=by
  unfold datsL at h
  split at h
  · have h1:=(List.mem_filter.1 h).1
    unfold preL at h1
    have h2:=(List.mem_filter.1 h1).1
    unfold dsortL at h2
    split at h2
    · exact (List.mem_filter.1 ((sortC_mem _ _ _).1 h2)).1
    · cases h2
  · cases h
theorem datsL_len {o : Int} {p : List Prt} {v : Vw} {L : List Dat} : (datsL o p v L).length ≤ L.length:=by
  unfold datsL
  split
  · exact Nat.le_trans (List.length_filter_le _ _) (preL_len _ _ _)
  · exact Nat.zero_le _
set_option maxHeartbeats 32000000 in
theorem ifacts_pc [GlobF Tryz.prog] (x : Option Ix) (L : List Dat) (hx : IxOf L (topI x)) (hL : okL L) (hl : L.length ≤ 262144) (o : Int) (p : List Prt) (v : Vw) (hp : p.length < 9223372036854775808) (hs : ∀ q,q ∈ p → q.v.s.length < 9223372036854775808) (hb : ∀ d,d ∈ L → d.v.s.length < 9223372036854775808) (hrg : rgD L) :
    PC Tryz.prog 15 [xA x,.sc (.int .i64 o),.sl none 5 (p.map pC),eW v] (.tu [sl6 (factsL o p v L),.sc (.int .i64 (factsE o p v L))]):=by
  have hd:=idatoms_pc x L hx hL hl o p v hp hs
  refine PC.of_body Tryz.func15 Tryz.ntmps15 rfl rfl rfl ?_
  by_cases c1 : datsE o p v = 0
  rotate_left
  · have e1 : factsE o p v L = datsE o p v:=by unfold factsE;rw [if_pos c1]
    rw [show factsL o p v L = [] by unfold factsL;rw [e1,if_neg c1],e1]
    repeat' first
 | (apply p1 (hd:=rfl);case hop=>first|(apply D_move;rfl)|(apply D_assign;rfl)|(apply D_pc hd;rfl;exact .same rfl (.same rfl (.same rfl (.same rfl .nil))))|(apply D_load1;rfl)|(apply D_fld;rfl)|(apply D_pickT;rfl;rfl)|(apply D_pickF;rfl;rfl)|(apply D_int;rfl;rfl;rfl)|(apply D_lenM;rfl)|(apply D_ext;rfl;rfl)|(apply D_loadW;rfl;rfl)|(apply D_box;rfl;rfl))
 | refine W_seq ?_
 | refine W_region ?_
 | (refine idC ?_;refine cs rfl (fun _=>?_) (fun _=>?_))
 | refine WL_nil ?_
 | (refine idG ?_;first|refine g0f rfl rfl rfl ?_|refine gr rfl rfl ?_|refine gs rfl rfl (fun _=>?_) (fun _=>?_))
 | refine tn ?_
 | refine tr ?_
 | refine W_skip ?_
 | refine W_ret ?_
 | (refine idR ?_;refine ret2 rfl rfl rfl rfl ?_ ?_)
 | (refine Le.int ?_)
    all_goals first|exact Le.nil rfl|rfl|contradiction|skip
  have ho : 1 ≤ o ∧ o ≤ 4:=preE_o (by
    unfold datsE at c1
    split at c1
    · rename_i h;exact absurd c1 h
    · rename_i h;simpa using h)
  rw [c1] at hd
  by_cases c2 : 3 < p.length
  · have e1 : factsE o p v L = 2:=by unfold factsE;rw [if_neg (by simpa using c1),if_pos (.inl c2)]
    rw [show factsL o p v L = [] by unfold factsL;rw [e1,if_neg (by decide)],e1]
    repeat' first
 | (apply p1 (hd:=rfl);case hop=>first|(apply D_move;rfl)|(apply D_assign;rfl)|(apply D_pc hd;rfl;exact .same rfl (.same rfl (.same rfl (.same rfl .nil))))|(apply D_load1;rfl)|(apply D_fld;rfl)|(apply D_pickT;rfl;rfl)|(apply D_pickF;rfl;rfl)|(apply D_int;rfl;rfl;rfl)|(apply D_lenM;rfl)|(apply D_ext;rfl;rfl)|(apply D_loadW;rfl;rfl)|(apply D_box;rfl;rfl))
 | refine W_seq ?_
 | refine W_region ?_
 | (refine idC ?_;refine cs rfl (fun _=>?_) (fun _=>?_))
 | refine WL_nil ?_
 | (refine idG ?_;first|refine g0f rfl rfl rfl ?_|refine gr rfl rfl ?_|refine gs rfl rfl (fun _=>?_) (fun _=>?_))
 | refine tn ?_
 | refine tr ?_
 | refine W_skip ?_
 | refine W_ret ?_
 | (refine idR ?_;refine ret2 rfl rfl rfl rfl ?_ ?_)
 | (refine Le.int ?_)
    all_goals first|exact Le.nil rfl|rfl|contradiction|(exfalso;omega)|skip
  obtain ⟨up,af,at_,one,no⟩:=v
  cases no
  rotate_left
  · have e1 : factsE o p ⟨up,af,at_,one,true⟩ L = 2:=by unfold factsE;rw [if_neg (by simpa using c1),if_pos (.inr rfl)]
    rw [show factsL o p ⟨up,af,at_,one,true⟩ L = [] by unfold factsL;rw [e1,if_neg (by decide)],e1]
    repeat' first
 | (apply p1 (hd:=rfl);case hop=>first|(apply D_move;rfl)|(apply D_assign;rfl)|(apply D_pc hd;rfl;exact .same rfl (.same rfl (.same rfl (.same rfl .nil))))|(apply D_load1;rfl)|(apply D_fld;rfl)|(apply D_pickT;rfl;rfl)|(apply D_pickF;rfl;rfl)|(apply D_int;rfl;rfl;rfl)|(apply D_lenM;rfl)|(apply D_ext;rfl;rfl)|(apply D_loadW;rfl;rfl)|(apply D_box;rfl;rfl))
 | refine W_seq ?_
 | refine W_region ?_
 | (refine idC ?_;refine cs rfl (fun _=>?_) (fun _=>?_))
 | refine WL_nil ?_
 | (refine idG ?_;first|refine g0f rfl rfl rfl ?_|refine gr rfl rfl ?_|refine gs rfl rfl (fun _=>?_) (fun _=>?_))
 | refine tn ?_
 | refine tr ?_
 | refine W_skip ?_
 | refine W_ret ?_
 | (refine idR ?_;refine ret2 rfl rfl rfl rfl ?_ ?_)
 | (refine Le.int ?_)
    all_goals first|exact Le.nil rfl|rfl|contradiction|(exfalso;omega)|skip
  have hsub : ∀ d,d ∈ datsL o p ⟨up,af,at_,one,false⟩ L → d ∈ L:=fun d h=>datsL_sub h
  have hlen : (datsL o p ⟨up,af,at_,one,false⟩ L).length ≤ L.length:=datsL_len
  have e1 : factsE o p ⟨up,af,at_,one,false⟩ L = if (foldR (datsL o p ⟨up,af,at_,one,false⟩ L)).isSome then 0 else 60:=by unfold factsE;rw [if_neg (by simpa using c1),if_neg (by rintro (h|h);exact c2 h;cases h)]
  have e2 : factsU o p ⟨up,af,at_,one,false⟩ L = if one = true then atL ((foldR (datsL o p ⟨up,af,at_,one,false⟩ L)).getD []) at_ else (foldR (datsL o p ⟨up,af,at_,one,false⟩ L)).getD []:=rfl
  have e3 : factsL o p ⟨up,af,at_,one,false⟩ L = if factsE o p ⟨up,af,at_,one,false⟩ L = 0 then sortIF o (factsU o p ⟨up,af,at_,one,false⟩ L) else []:=rfl
  rw [e3,e2,e1]
  generalize datsL o p ⟨up,af,at_,one,false⟩ L = D at *
  have hDs : ∀ d,d ∈ D → d.v.s.length < 9223372036854775808:=fun d h=>hb d (hsub d h)
  have hDr : rgD D:=fun d h=>hrg d (hsub d h)
  have hf:=fold_pc D (by omega) hDs hDr
  have hok:=foldR_ok D hDr
  have hfl:=foldR_len D
  cases hF : foldR D with
  | none =>
    rw [hF] at hf
    repeat' first
 | (apply p1 (hd:=rfl);case hop=>first|(apply D_move;rfl)|(apply D_assign;rfl)|(apply D_pc hd;rfl;exact .same rfl (.same rfl (.same rfl (.same rfl .nil))))|(apply D_pc hf;rfl;exact .same rfl .nil)|(apply D_load1;rfl)|(apply D_fld;rfl)|(apply D_pickT;rfl;rfl)|(apply D_pickF;rfl;rfl)|(apply D_int;rfl;rfl;rfl)|(apply D_lenM;rfl)|(apply D_ext;rfl;rfl)|(apply D_loadW;rfl;rfl)|(apply D_box;rfl;rfl)|exact D_mkfn rfl)
 | refine W_seq ?_
 | refine W_region ?_
 | (refine idC ?_;first|refine c0 rfl ?_|refine cs rfl (fun _=>?_) (fun _=>?_))
 | refine WL_nil ?_
 | (refine idG ?_;first|refine g0t rfl rfl rfl ?_|refine g0f rfl rfl rfl ?_|refine gr rfl rfl ?_|refine gs rfl rfl (fun _=>?_) (fun _=>?_))
 | refine tn ?_
 | refine tr ?_
 | refine W_skip ?_
 | refine W_ret ?_
 | (refine idR ?_;refine ret2 rfl rfl rfl rfl ?_ ?_)
 | (refine idA ?_;refine m_alloc rfl ?_)
 | (refine idS ?_;refine pS (S_store rfl rfl rfl rfl rfl rfl rfl) ?_)
 | (refine Le.int ?_)
    all_goals first|exact Le.nil rfl|rfl|contradiction|(exfalso;omega)|skip
  | some F =>
    rw [hF] at hf hok hfl
    obtain ⟨-,hA,-⟩:=hok
    simp only [Option.getD_some] at hf hfl
    have hbn : bndG F:=fun f hf=>⟨fac_sl hA hf,by have:=hfl.2 f hf;omega⟩
    simp only [Option.getD_some,Option.isSome_some,if_true]
    have hdst : dstF o F:=riseF_dst (allF_rise hA)
    cases one
    · simp only [Bool.false_eq_true,if_false]
      have hr:=AC.rowF (n:=F.length) (els:=F.map fC) (u:=.int .i64 0) (List.length_map _).symm (fold_rc D F hF (by omega) hDs hDr)
      by_cases h0 : F.length = 0
      · have hnil : F = []:=List.length_eq_zero_iff.1 h0
        subst hnil
        have hr0:=hr []
        repeat' first
 | (refine W_freeze 1 rfl ?_)
 | (apply p1 (hd:=rfl);case hop=>first|(apply D_move;rfl)|(apply D_assign;rfl)|(apply D_pc hd;rfl;exact .same rfl (.same rfl (.same rfl (.same rfl .nil))))|(apply D_pc (sortIF0_pc o);rfl;exact .cons rfl Le.row0 (.same rfl .nil))|(apply D_load1;rfl)|(apply D_fld;rfl)|(apply D_pickT;rfl;rfl)|(apply D_pickF;rfl;rfl)|(apply D_int;rfl;rfl;rfl)|(apply D_lenM;rfl)|(apply D_ext;rfl;rfl)|(apply D_loadW;rfl;rfl)|(apply D_box;rfl;rfl)|exact D_mkfn rfl)
 | refine W_seq ?_
 | refine W_region ?_
 | (refine idC ?_;first|refine c0 rfl ?_|refine cs rfl (fun _=>?_) (fun _=>?_))
 | refine WL_nil ?_
 | (refine idG ?_;first|refine g0t rfl rfl rfl ?_|refine g0f rfl rfl rfl ?_|refine gr rfl rfl ?_|refine gs rfl rfl (fun _=>?_) (fun _=>?_))
 | refine tn ?_
 | refine tr ?_
 | refine W_skip ?_
 | refine W_ret ?_
 | (refine idR ?_;refine ret2 rfl rfl rfl rfl ?_ ?_)
 | (refine idA ?_;refine m_alloc rfl ?_)
 | (refine idS ?_;refine pS (S_store rfl rfl rfl rfl rfl rfl rfl) ?_)
 | refine Le.int ?_
 | (refine m_call (d:=34) hr0 rfl rfl rfl ?_;rintro _ _ ⟨rfl,rfl⟩)
        all_goals first|exact Le.row0|rfl|contradiction|(exfalso;omega)|skip
      · have hr0:=hr []
        have hsp:=sortIF_perm hdst
        have hso:=fun (sp : List AV) (h : List AObj) (hh : h[0]? = some (.cells ((F.map fC).flatten ++ sp)))=>sortIF_ac (h:=h) (r:=0) (l:=F) (sp:=sp) o ho hdst hh (by omega) (by omega)
        repeat' first
 | (refine WL_rowM 12 0 (els:=F.map fC) rfl rfl (by simp) (by omega) ?_;intro sp)
 | (refine W_freeze 1 rfl ?_)
 | (apply p1 (hd:=rfl);case hop=>first|(apply D_move;rfl)|(apply D_assign;rfl)|(apply D_pc hd;rfl;exact .same rfl (.same rfl (.same rfl (.same rfl .nil))))|(apply D_load1;rfl)|(apply D_fld;rfl)|(apply D_pickT;rfl;rfl)|(apply D_pickF;rfl;rfl)|(apply D_int;rfl;rfl;rfl)|(apply D_lenM;rfl)|(apply D_ext;rfl;rfl)|(apply D_loadW;rfl;rfl)|(apply D_box;rfl;rfl)|exact D_mkfn rfl)
 | refine W_seq ?_
 | refine W_region ?_
 | (refine idC ?_;first|refine c0 rfl ?_|refine cs rfl (fun _=>?_) (fun _=>?_))
 | refine WL_nil ?_
 | (refine idG ?_;first|refine g0t rfl rfl rfl ?_|refine g0f rfl rfl rfl ?_|refine gr rfl rfl ?_|refine gs rfl rfl (fun _=>?_) (fun _=>?_))
 | refine tn ?_
 | refine tr ?_
 | refine W_skip ?_
 | refine W_ret ?_
 | (refine idR ?_;refine ret2 rfl rfl rfl rfl ?_ ?_)
 | (refine idA ?_;refine m_alloc rfl ?_)
 | (refine idS ?_;refine pS (S_store rfl rfl rfl rfl rfl rfl rfl) ?_)
 | refine Le.int ?_
 | (refine m_call (d:=34) hr0 rfl rfl rfl ?_;rintro _ _ ⟨rfl,rfl⟩)
 | (refine m_call (d:=55) (hso sp _ (by rfl)) rfl rfl rfl ?_;rintro _ _ ⟨rfl,rfl⟩;refine WL_frz 12 0 6 (els:=(sortIF o F).map fC) (sp:=sp) rfl rfl (by rw [List.length_map,hsp.length_eq];exact Nat.le_refl _) fC_row ?_;rw [List.take_of_length_le (by rw [List.length_map,hsp.length_eq];exact Nat.le_refl _)])
        all_goals first|exact Le.of_eq rfl|rfl|contradiction|(exfalso;omega)|skip
    · simp only [if_true]
      have hal : (atL F at_).length ≤ F.length:=List.length_filter_le _ _
      have hdst2 : dstF o (atL F at_):=List.Pairwise.filter _ hdst
      have hr:=AC.rowF (n:=(atL F at_).length) (els:=(atL F at_).map fC) (u:=.int .i64 0) (List.length_map _).symm (fat_rc F at_ (dP_T hA).symm (by omega) hbn)
      generalize atL F at_ = U at *
      by_cases h0 : U.length = 0
      · have hnil : U = []:=List.length_eq_zero_iff.1 h0
        subst hnil
        have hr0:=hr []
        repeat' first
 | (refine W_freeze 1 rfl ?_)
 | (apply p1 (hd:=rfl);case hop=>first|(apply D_move;rfl)|(apply D_assign;rfl)|(apply D_pc hd;rfl;exact .same rfl (.same rfl (.same rfl (.same rfl .nil))))|(apply D_pc hf;rfl;exact .same rfl .nil)|(apply D_pc (sortIF0_pc o);rfl;exact .cons rfl Le.row0 (.same rfl .nil))|(apply D_load1;rfl)|(apply D_fld;rfl)|(apply D_pickT;rfl;rfl)|(apply D_pickF;rfl;rfl)|(apply D_int;rfl;rfl;rfl)|(apply D_lenM;rfl)|(apply D_ext;rfl;rfl)|(apply D_loadW;rfl;rfl)|(apply D_box;rfl;rfl)|exact D_mkfn rfl)
 | refine W_seq ?_
 | refine W_region ?_
 | (refine idC ?_;first|refine c0 rfl ?_|refine cs rfl (fun _=>?_) (fun _=>?_))
 | refine WL_nil ?_
 | (refine idG ?_;first|refine g0t rfl rfl rfl ?_|refine g0f rfl rfl rfl ?_|refine gr rfl rfl ?_|refine gs rfl rfl (fun _=>?_) (fun _=>?_))
 | refine tn ?_
 | refine tr ?_
 | refine W_skip ?_
 | refine W_ret ?_
 | (refine idR ?_;refine ret2 rfl rfl rfl rfl ?_ ?_)
 | (refine idA ?_;refine m_alloc rfl ?_)
 | (refine idS ?_;refine pS (S_store rfl rfl rfl rfl rfl rfl rfl) ?_)
 | refine Le.int ?_
 | (refine m_call (d:=47) hr0 rfl rfl rfl ?_;rintro _ _ ⟨rfl,rfl⟩)
        all_goals first|exact Le.row0|rfl|contradiction|(exfalso;omega)|skip
      · have hr0:=hr []
        have hsp:=sortIF_perm hdst2
        have hso:=fun (sp : List AV) (h : List AObj) (hh : h[0]? = some (.cells ((U.map fC).flatten ++ sp)))=>sortIF_ac (h:=h) (r:=0) (l:=U) (sp:=sp) o ho hdst2 hh (by omega) (by omega)
        repeat' first
 | (refine WL_rowM 12 0 (els:=U.map fC) rfl rfl (by simp) (by omega) ?_;intro sp)
 | (refine W_freeze 1 rfl ?_)
 | (apply p1 (hd:=rfl);case hop=>first|(apply D_move;rfl)|(apply D_assign;rfl)|(apply D_pc hd;rfl;exact .same rfl (.same rfl (.same rfl (.same rfl .nil))))|(apply D_pc hf;rfl;exact .same rfl .nil)|(apply D_load1;rfl)|(apply D_fld;rfl)|(apply D_pickT;rfl;rfl)|(apply D_pickF;rfl;rfl)|(apply D_int;rfl;rfl;rfl)|(apply D_lenM;rfl)|(apply D_ext;rfl;rfl)|(apply D_loadW;rfl;rfl)|(apply D_box;rfl;rfl)|exact D_mkfn rfl)
 | refine W_seq ?_
 | refine W_region ?_
 | (refine idC ?_;first|refine c0 rfl ?_|refine cs rfl (fun _=>?_) (fun _=>?_))
 | refine WL_nil ?_
 | (refine idG ?_;first|refine g0t rfl rfl rfl ?_|refine g0f rfl rfl rfl ?_|refine gr rfl rfl ?_|refine gs rfl rfl (fun _=>?_) (fun _=>?_))
 | refine tn ?_
 | refine tr ?_
 | refine W_skip ?_
 | refine W_ret ?_
 | (refine idR ?_;refine ret2 rfl rfl rfl rfl ?_ ?_)
 | (refine idA ?_;refine m_alloc rfl ?_)
 | (refine idS ?_;refine pS (S_store rfl rfl rfl rfl rfl rfl rfl) ?_)
 | refine Le.int ?_
 | (refine m_call (d:=47) hr0 rfl rfl rfl ?_;rintro _ _ ⟨rfl,rfl⟩)
 | (refine m_call (d:=55) (hso sp _ (by rfl)) rfl rfl rfl ?_;rintro _ _ ⟨rfl,rfl⟩;refine WL_frz 12 0 6 (els:=(sortIF o U).map fC) (sp:=sp) rfl rfl (by rw [List.length_map,hsp.length_eq];exact Nat.le_refl _) fC_row ?_;rw [List.take_of_length_le (by rw [List.length_map,hsp.length_eq];exact Nat.le_refl _)])
        all_goals first|exact Le.of_eq rfl|rfl|contradiction|(exfalso;omega)|skip
end Go.Proofs
