/- Contracts of facts: folded, at an instant, of a view. -/
import Derived.Test.YtjojdiefnhbglaaGreatYF1
import Derived.Test.YtjojdiefnhbglaaGreatYI5
set_option linter.all false
namespace Go.Proofs
open Go.AL Go.Sort
attribute [local irreducible] Go.AL.W Go.AL.WL Go.AL.WD Go.AL.POp Go.AL.PPOp Go.AL.POpS Go.AL.PC Go.AL.AC Go.AL.YW Go.AL.Ret Go.AL.Le Go.AL.thn Go.AL.inBlk Go.AL.scp
instance (p : Prop) : BP (dP p) p (¬ p):=⟨fun h=>by rwa [dP_t] at h,fun h=>by rwa [dP_f] at h⟩
instance (s : List UInt8) : BP (wordB s) (WordP s) (¬ WordP s):=⟨fun h=>by unfold wordB at h;simpa using h,fun h=>by unfold wordB at h;simpa using h⟩
instance (v : Val) : BP (mayB v) (MayP v) (¬ MayP v):=⟨fun h=>by unfold mayB at h;rwa [dP_t] at h,fun h=>by unfold mayB at h;rwa [dP_f] at h⟩
instance : Xt Tryz.prog 252 Extern.BytealgCompare.compare:=⟨run_callFunc_extern Tryz.func252 (by kernel_rfl) (by kernel_rfl) (by kernel_rfl) (by kernel_rfl)⟩
instance : Inhabited Sp:=⟨⟨0,0⟩⟩
theorem meet_len : ∀ (n : Nat) (a b : List Sp),a.length + b.length ≤ n → (meetL a b).length ≤ a.length + b.length
  | _,[],b,_=>by rw [meetL_nil];simp
  | _,_ :: _,[],_=>by rw [meetL_nil2];simp
  | 0,_ :: _,_ :: _,h=>by simp at h
  | n + 1,s :: a,r :: b,hn=>by
    rw [meetL_cons]
    simp only [List.length_cons,List.length_append] at hn ⊢
    have h1 : (if max s.f r.f < min s.t r.t then [(⟨max s.f r.f,min s.t r.t⟩ : Sp)] else []).length ≤ 1:=by split <;> simp
    by_cases hc : s.t < r.t
    · rw [if_pos hc]
      have:=meet_len n a (r :: b) (by simp;omega)
      simp only [List.length_cons] at this;omega
    · rw [if_neg hc]
      have:=meet_len n (s :: a) b (by simp;omega)
      simp only [List.length_cons] at this;omega
abbrev minL (a b : List Sp) : List Sp:=meetL a (restL loT b)
theorem rng_in {l : List Sp} (h : rngS l) {x : Int} (hx : inS l x) : loT ≤ x ∧ x < hiT:=by
  obtain ⟨s,hs,h1,h2⟩:=hx
  have:=h s hs
  omega
theorem rng_of {l : List Sp} (h : SetP l) (hx : ∀ x,inS l x → loT ≤ x ∧ x < hiT) : rngS l:=fun s hs=>by
  have hne:=h.1 s hs
  have h1:=hx s.f ⟨s,hs,Int.le_refl _,hne⟩
  have h2:=hx (s.t - 1) ⟨s,hs,by omega,by omega⟩
  omega
theorem and_ok {a b : List Sp} (ha : SetP a) (hb : SetP b) : SetP (meetL a b) ∧ ∀ x,inS (meetL a b) x ↔ (inS a x ∧ inS b x):=meet_ok _ a b (Nat.le_refl _) ha hb
theorem min_ok {a b : List Sp} (ha : SetP a) (hb : SetP b) (ra : ∀ x,inS a x → loT ≤ x ∧ x < hiT) (rb : rngS b) : SetP (minL a b) ∧ ∀ x,inS (minL a b) x ↔ (inS a x ∧ ¬ inS b x):=by
  obtain ⟨r1,r2⟩:=rest_ok b loT hb rb (fun s hs=>(rb s hs).1.1)
  obtain ⟨m1,m2⟩:=and_ok ha r1
  refine ⟨m1,fun x=>(m2 x).trans ⟨fun h=>⟨h.1,((r2 x).1 h.2).2.2⟩,fun h=>⟨h.1,(r2 x).2 ⟨(ra x h.1).1,(ra x h.1).2,h.2⟩⟩⟩⟩
theorem ne_app {a b : List Sp} (ha : SetP a) (hb : SetP b) : neS (a ++ b):=fun s hs=>by
  rcases List.mem_append.1 hs with h|h
  · exact ha.1 s h
  · exact hb.1 s h
theorem or_ok {a b : List Sp} (ha : SetP a) (hb : SetP b) : SetP (canS (a ++ b)) ∧ ∀ x,inS (canS (a ++ b)) x ↔ (inS a x ∨ inS b x):=by
  obtain ⟨k1,k2⟩:=canS_ok (ne_app ha hb)
  exact ⟨k1,fun x=>(k2 x).trans (inS_append a b x)⟩
theorem canS_len (l : List Sp) : (canS l).length ≤ l.length:=by
  have:=J_len (l.mergeSort fun x y=>decide (x.f ≤ y.f))
  rwa [List.length_mergeSort] at this
theorem min_len (a b : List Sp) : (minL a b).length ≤ a.length + b.length + 1:=by
  have h1:=meet_len _ a (restL loT b) (Nat.le_refl _)
  have h2:=rest_len b loT
  show (meetL a (restL loT b)).length ≤ _
  omega
noncomputable instance : DecidableEq Val:=fun _ _=>Classical.propDecidable _
instance : Inhabited Dat:=⟨dat0⟩
instance : Inhabited Val:=⟨val0⟩
instance : Inhabited Dat:=⟨dat0⟩
noncomputable instance : DecidableEq Dat:=fun _ _=>Classical.propDecidable _
noncomputable instance : DecidableEq Val:=fun _ _=>Classical.propDecidable _
instance : Inhabited Val:=⟨val0⟩
instance : Inhabited Dat:=⟨dat0⟩
noncomputable instance : DecidableEq Dat:=fun _ _=>Classical.propDecidable _
def alP (a b : Dat) : Prop:=a.e = b.e ∧ a.a = b.a ∧ a.v = b.v
def grP (whole : Bool) (a b : Dat) : Prop:=alP a b ∧ (whole = true ∨ a.t = b.t)
theorem tw_at (q : Dat → Bool) : ∀ (l : List Dat) (m : Nat),m ≤ l.length → (∀ (j : Nat) (h : j < l.length),j < m → q l[j] = true) → (∀ h : m < l.length,q l[m] = false) → l.takeWhile q = l.take m ∧ l.dropWhile q = l.drop m
  | [],m,hm,_,_=>by simp
  | x :: l,0,_,_,h2=>by
    have:=h2 (by simp)
    simp only [List.getElem_cons_zero] at this
    simp [this]
  | x :: l,m + 1,hm,h1,h2=>by
    have h0:=h1 0 (by simp) (by omega)
    simp only [List.getElem_cons_zero] at h0
    obtain ⟨a,b⟩:=tw_at q l m (by simpa using hm) (fun j h hj=>by have:=h1 (j + 1) (by simpa using h) (by omega);simpa using this) (fun h=>by have:=h2 (by simpa using h);simpa using this)
    simp [h0,a,b]
open Classical in
noncomputable def tst (p : Dat → Dat → Prop) (d : Dat) : Dat → Bool:=fun x=>decide (p d x)
theorem tst_t {p : Dat → Dat → Prop} {d x : Dat} : tst p d x = true ↔ p d x:=by unfold tst;simp
theorem tst_f {p : Dat → Dat → Prop} {d x : Dat} : tst p d x = false ↔ ¬ p d x:=by unfold tst;simp
noncomputable def grpL (p : Dat → Dat → Prop) : List Dat → List (List Dat)
  | []=>[]
  | d :: l=>(d :: l.takeWhile (tst p d)) :: grpL p (l.dropWhile (tst p d))
termination_by l=>l.length
decreasing_by
  have:=(List.dropWhile_sublist (p:=tst p d) (l:=l)).length_le
  simp;omega
theorem grpL_nil (p : Dat → Dat → Prop) : grpL p [] = []:=by rw [grpL]
theorem grpL_cons (p : Dat → Dat → Prop) (d : Dat) (l : List Dat) : grpL p (d :: l) = (d :: l.takeWhile (tst p d)) :: grpL p (l.dropWhile (tst p d)):=by rw [grpL]
theorem grp_at {p : Dat → Dat → Prop} {r : List Dat} {n : Nat} (h0 : 0 < n) (hn : n ≤ r.length) (h1 : ∀ (j : Nat) (h : j < r.length),1 ≤ j → j < n → p (r[0]'(by omega)) r[j]) (h2 : ∀ h : n < r.length,¬ p (r[0]'(by omega)) r[n]) :
    grpL p r = r.take n :: grpL p (r.drop n):=by
  cases r with
  | nil=>simp at hn;omega
  | cons d l =>
    obtain ⟨m,rfl⟩ : ∃ m,n = m + 1:=⟨n - 1,by omega⟩
    obtain ⟨a,b⟩:=tw_at (tst p d) l m (by simpa using hn) (fun j h hj=>tst_t.2 (by have:=h1 (j + 1) (by simpa using h) (by omega) (by omega);simpa using this)) (fun h=>tst_f.2 (by have:=h2 (by simpa using h);simpa using this))
    rw [grpL_cons,a,b];rfl
def saidL (l : List Dat) (b : Bool) : List Sp:=(l.filter fun d=>d.add == b).map fun d=>⟨d.fr,d.to⟩
theorem saidL_len (l : List Dat) (b : Bool) : (saidL l b).length ≤ l.length:=by unfold saidL;rw [List.length_map];exact List.length_filter_le _ _
theorem saidL_snoc (l : List Dat) (b : Bool) (i : Nat) (h : i < l.length) : saidL (l.take (i + 1)) b = saidL (l.take i) b ++ (if l[i].add = b then [⟨l[i].fr,l[i].to⟩] else []):=by
  unfold saidL
  rw [List.take_succ_eq_append_getElem h,List.filter_append,List.map_append]
  congr 1
  by_cases hb : l[i].add = b <;> simp [hb]
def okD (l : List Dat) : Prop:=∀ d,d ∈ l → d.fr < d.to
theorem saidL_ne {l : List Dat} (h : okD l) (b : Bool) : neS (saidL l b):=fun s hs=>by
  unfold saidL at hs
  obtain ⟨d,hd,rfl⟩:=List.mem_map.1 hs
  exact h d (List.mem_filter.1 hd).1
noncomputable def tnL (now : List Sp) (l : List Dat) : List Sp:=minL (canS (now ++ canS (saidL l true))) (canS (saidL l false))
noncomputable def bothL (l : List Dat) : List Sp:=meetL (canS (saidL l true)) (canS (saidL l false))
noncomputable def foldT (now : List Sp) : List (List Dat) → Option (List Sp)
  | []=>some now
  | x :: xs=>if (bothL x).length = 0 then foldT (tnL now x) xs else none
noncomputable def foldG : List (List Dat) → Option (List Fac)
  | []=>some []
  | g :: gs=>match foldT [] (grpL (grP false) g),foldG gs with
    | some sp,some r=>some ((if sp.length = 0 then [] else [⟨(g.headD dat0).e,(g.headD dat0).a,(g.headD dat0).v,sp⟩]) ++ r)
    | _,_=>none
theorem encV_eq {a b : Val} : [Value.int IntKind.i64 a.kind,Value.int IntKind.i64 a.n,Value.string ⟨a.s.toArray⟩] = [Value.int IntKind.i64 b.kind,Value.int IntKind.i64 b.n,Value.string ⟨b.s.toArray⟩] ↔ a = b:=by
  constructor
  · intro h
    obtain ⟨k,n,s⟩:=a
    obtain ⟨k',n',s'⟩:=b
    simp at h
    obtain ⟨h1,h2,h3⟩:=h
    subst h1;subst h2;subst h3;rfl
  · rintro rfl;rfl
set_option maxHeartbeats 4000000 in
theorem alike_pc [GlobF Tryz.prog] (a b : Dat) : PC Tryz.prog 137 [eD a,eD b] (.sc (.bool (dP (alP a b)))):=by
  refine PC.of_body Tryz.func137 Tryz.ntmps137 rfl rfl rfl ?_
  repeat' first
 | (apply p1 (hd:=rfl);case hop=>first|(apply D_move;rfl)|(apply D_assign;rfl)|(apply D_load1;rfl)|(apply D_fld;rfl)|(apply D_pickT;rfl;rfl)|(apply D_pickF;rfl;rfl)|(apply D_int;rfl;rfl;rfl)|(apply D_loadA;rfl;rfl)|(apply D_box;rfl;rfl)|exact D_eqA rfl rfl rfl rfl rfl rfl rfl)
 | refine W_seq ?_
 | refine W_region ?_
 | refine WL_nil ?_
 | (refine idG ?_;first|refine g0t rfl rfl rfl ?_|refine gr rfl rfl ?_|refine gs rfl rfl (fun _=>?_) (fun _=>?_))
 | refine tn ?_
 | refine W_ret ?_
 | (refine idR ?_;refine ret1 rfl rfl rfl ?_)
 | (refine Le.bool ?_)
  all_goals first
    | (refine dP_F ?_;rintro ⟨h1,h2,h3⟩;contradiction)
    | (refine dP_eq ?_;rw [lEq_t];exact ⟨fun h=>⟨by assumption,by assumption,encV_eq.1 h⟩,fun h=>encV_eq.2 h.2.2⟩)
    | skip
theorem rent {rg rg' : List (Nat × AV)} {h : List AObj} {q n k e : Nat} (hq : h[q]? = some (.tail n k e)) (hr : RenL [q] rg rg') : Ren ⟨[],0⟩ [q] rg h rg' [.tail n k e] :=
  ⟨by simp,fun r hr=>absurd hr (Nat.not_lt_zero r),fun r hr=>(by cases hr),hr,⟨⟨_,hq,.tail _ _ _⟩,trivial⟩⟩
set_option maxHeartbeats 8000000 in
theorem fsaid_pc [GlobF Tryz.prog] (l : List Dat) (b : Bool) (hl : l.length < 8796093022208) (hok : okD l) : PC Tryz.prog 138 [sl9 l,.sc (.bool b)] (sl2 (canS (saidL l b))):=by
  have hm:=make_pc (saidL l b) (Nat.lt_of_le_of_lt (saidL_len l b) hl)
  rw [← dP_T (saidL_ne hok b),if_pos rfl,if_pos rfl] at hm
  refine PC.of_body Tryz.func138 Tryz.ntmps138 rfl rfl rfl ?_
  repeat' first
 | (apply p1 (hd:=rfl);case hop=>first|(apply D_move;rfl)|(apply D_assign;rfl)|(apply D_lenM;rfl))
 | refine W_seq ?_
 | refine W_region ?_
 | refine WL_nil ?_
 | refine tn ?_
 | (refine W_block ?_)
  refine W_adopt 5 2 62 rfl ?_
  refine W_loopR (X:=Nat) (fun i=>[(1,.sc (.bool b)),(5,.sl (some 0) 2 ((saidL (l.take i) b).map sC)),(10,sl9 l),(11,.sc (.int .i64 (l.length : Int))),(12,.sc (.int .i64 (i : Int)))]) (fun i=>[.tail (saidL (l.take i) b).length 2 62])
    (fun i=>i ≤ l.length) (fun i=>l.length - i) 0 (Nat.zero_le _) ⟨rfl,rfl,rfl,rfl,rfl,trivial⟩ rfl ?_
  intro i hi
  have hlen : (saidL (l.take i) b).length ≤ i:=Nat.le_trans (saidL_len _ _) (by simp;omega)
  have hsn:=saidL_snoc l b i
  have hfin : l.length ≤ i → saidL (l.take i) b = saidL l b:=fun h=>by rw [List.take_of_length_le h]
  generalize saidL (l.take i) b = O at *
  by_cases hil : i < l.length
  · have hsn:=hsn hil
    repeat' first
 | (apply p1 (hd:=rfl);case hop=>first|(apply D_move;rfl)|(apply D_assign;rfl)|(apply D_load1;rfl)|(apply D_fld;rfl)|(apply D_int;rfl;rfl;rfl)|(apply D_loadW;rfl;rfl)|(apply D_beq;rfl;rfl)|(apply D_idxAn;rfl;rfl;(first|omega|(simp;done)))|(apply D_lit;rfl;rfl;rfl;rfl)|exact D_build rfl)
 | refine W_seq ?_
 | refine W_region ?_
 | (refine idC ?_;refine cs rfl (fun _=>?_) (fun _=>?_))
 | refine WL_nil ?_
 | refine tn ?_
 | refine bn ?_
 | refine te ?_
 | (refine idB ?_;refine bh rfl ?_)
 | refine W_skip ?_
 | refine W_block ?_
 | refine W_exit ?_
 | (refine idA ?_;refine m_var rfl rfl rfl rfl rfl rfl rfl ?_)
 | (refine idAp ?_;refine m_appB rfl rfl rfl (by first|rfl|assumption|exact get_set (by assumption)|exact get_set (get_set (by assumption))|exact get_set (get_set (get_set (by assumption)))|((repeat first|assumption|exact get_last|(refine get_last2 ?_;focus (simp;done))|apply get_set|apply get_app|(apply get_ne;focus omega));done)) ?_ rfl rfl ?_ ?_ rfl ?_;(first|rfl|focus (simp only [List.length_map,List.length_append,List.length_cons,List.length_nil];omega)|focus (simp;done)|focus (simp;omega));(first|focus (simp only [List.length_map,List.length_append,List.length_cons,List.length_nil];omega)|focus (simp;done)|focus (simp;omega));(first|focus (simp only [List.length_map,List.length_append,List.length_cons,List.length_nil];omega)|focus (simp;done)|focus (simp;omega)))
    all_goals first
      | (exfalso;omega)
      | (rw [if_pos (by assumption)] at hsn
         refine ⟨rfl,i + 1,by omega,by omega,[0],rent ?_ ⟨⟨_,rfl,.pur⟩,⟨_,rfl,?_⟩,⟨_,rfl,.pur⟩,⟨_,rfl,.pur⟩,⟨_,rfl,by rw [wsucc i (by omega)];exact .pur⟩,trivial⟩⟩
         · rw [show (saidL (l.take (i + 1)) b).length = (O.map sC).length + 1 by rw [hsn];simp];rfl
         · rw [hsn,show (O ++ [(⟨(l[i]'hil).fr,(l[i]'hil).to⟩ : Sp)]).map sC = O.map sC ++ [sC ⟨(l[i]'hil).fr,(l[i]'hil).to⟩] by simp]
           show Mv [0] (.sl (some 0) 2 (O.map sC ++ [sC ⟨(l[i]'hil).fr,(l[i]'hil).to⟩])) _
           exact .sl rfl)
      | (rw [if_neg (by assumption),List.append_nil] at hsn
         refine ⟨rfl,i + 1,by omega,by omega,[0],rent ?_ ⟨⟨_,rfl,.pur⟩,⟨_,rfl,?_⟩,⟨_,rfl,.pur⟩,⟨_,rfl,.pur⟩,⟨_,rfl,by rw [wsucc i (by omega)];exact .pur⟩,trivial⟩⟩
         · rw [hsn];rfl
         · rw [hsn];exact .sl rfl)
      | skip
  · have hO:=hfin (by omega)
    subst hO
    repeat' first
 | (apply p1 (hd:=rfl);case hop=>first|(apply D_move;rfl)|(apply D_assign;rfl)|(apply D_pc hm;rfl;exact .tok rfl .nil)|(apply D_load1;rfl)|(apply D_fld;rfl)|(apply D_int;rfl;rfl;rfl)|(apply D_ext;rfl;rfl)|(apply D_loadW;rfl;rfl)|(apply D_beq;rfl;rfl)|(apply D_idxAn;rfl;rfl;(first|omega|(simp;done)))|(apply D_lit;rfl;rfl;rfl;rfl)|exact D_build rfl)
 | refine W_seq ?_
 | refine W_region ?_
 | (refine idC ?_;refine cs rfl (fun _=>?_) (fun _=>?_))
 | refine WL_nil ?_
 | refine tn ?_
 | refine bn ?_
 | refine te ?_
 | (refine idB ?_;refine bh rfl ?_)
 | refine W_skip ?_
 | refine W_block ?_
 | refine W_exit ?_
 | refine W_ret ?_
 | (refine idR ?_;refine ret1 rfl rfl rfl ?_)
 | (refine idA ?_;refine m_var rfl rfl rfl rfl rfl rfl rfl ?_)
 | (refine idAp ?_;refine m_appB rfl rfl rfl (by first|rfl|assumption|exact get_set (by assumption)|exact get_set (get_set (by assumption))|exact get_set (get_set (get_set (by assumption)))|((repeat first|assumption|exact get_last|(refine get_last2 ?_;focus (simp;done))|apply get_set|apply get_app|(apply get_ne;focus omega));done)) ?_ rfl rfl ?_ ?_ rfl ?_;(first|rfl|focus (simp only [List.length_map,List.length_append,List.length_cons,List.length_nil];omega)|focus (simp;done)|focus (simp;omega));(first|focus (simp only [List.length_map,List.length_append,List.length_cons,List.length_nil];omega)|focus (simp;done)|focus (simp;omega));(first|focus (simp only [List.length_map,List.length_append,List.length_cons,List.length_nil];omega)|focus (simp;done)|focus (simp;omega)))
    all_goals first
      | (exfalso;omega)
      | exact Le.of_eq rfl
      | skip
theorem said_part : ∀ l : List Dat,(saidL l true).length + (saidL l false).length = l.length
  | []=>rfl
  | d :: l=>by
    have ih:=said_part l
    unfold saidL at *
    rw [List.length_map,List.length_map] at *
    cases hd : d.add <;> simp [List.filter_cons,hd] at ih ⊢ <;> omega
theorem tn_len (now : List Sp) (l : List Dat) : (tnL now l).length ≤ now.length + l.length + 1:=by
  have h1:=min_len (canS (now ++ canS (saidL l true))) (canS (saidL l false))
  have h2:=canS_len (now ++ canS (saidL l true))
  have h3:=canS_len (saidL l true)
  have h4:=canS_len (saidL l false)
  have h5:=said_part l
  rw [List.length_append] at h2
  unfold tnL;omega
theorem tn_set {now : List Sp} {l : List Dat} (hn : SetP now) (hok : okD l) : SetP (canS (now ++ canS (saidL l true))) ∧ SetP (canS (saidL l true)) ∧ SetP (canS (saidL l false)) :=
  ⟨(or_ok hn (canS_ok (saidL_ne hok true)).1).1,(canS_ok (saidL_ne hok true)).1,(canS_ok (saidL_ne hok false)).1⟩
set_option maxHeartbeats 8000000 in
theorem turned_pc [GlobF Tryz.prog] (now : List Sp) (l : List Dat) (hn : SetP now) (hok : okD l) (hl : now.length + 2 * l.length + 1 < 8796093022208) : PC Tryz.prog 87 [sl2 now,sl9 l] (.tu [sl2 (tnL now l),.sc (.bool (dP ((bothL l).length = 0)))]):=by
  obtain ⟨h1,h2,h3⟩:=tn_set hn hok
  have l1:=canS_len (saidL l true)
  have l2:=canS_len (saidL l false)
  have l3:=saidL_len l true
  have l4:=saidL_len l false
  have l5:=canS_len (now ++ canS (saidL l true))
  rw [List.length_append] at l5
  have f1:=fsaid_pc l true (by omega) hok
  have f2:=fsaid_pc l false (by omega) hok
  have f3:=sand_pc _ _ h2 h3 (by omega) (by omega)
  have f4:=sor_pc now _ hn h2 (by omega) (by omega)
  have f5:=sminus_pc _ _ h1 h3 (by omega) (by omega)
  refine PC.of_body Tryz.func87 Tryz.ntmps87 rfl rfl rfl ?_
  repeat' first
 | (apply p1 (hd:=rfl);case hop=>first|(apply D_move;rfl)|(apply D_assign;rfl)|(apply D_pc f1;rfl;exact .same rfl (.same rfl .nil))|(apply D_pc f2;rfl;exact .same rfl (.same rfl .nil))|(apply D_pc f3;rfl;exact .same rfl (.same rfl .nil))|(apply D_pc f4;rfl;exact .same rfl (.same rfl .nil))|(apply D_pc f5;rfl;exact .same rfl (.same rfl .nil))|(apply D_int;rfl;rfl;rfl)|(apply D_lenM;rfl)|(apply D_ext;rfl;rfl))
 | refine W_seq ?_
 | refine W_region ?_
 | refine WL_nil ?_
 | refine tn ?_
 | refine W_ret ?_
 | (refine idR ?_;refine ret2 rfl rfl rfl rfl ?_ ?_)
 | (refine Le.bool ?_)
  all_goals first
    | exact Le.of_eq rfl
    | (refine dP_eq ?_;rw [iEq_t];exact ⟨fun e=>Int.ofNat.inj e,fun e=>congrArg Int.ofNat e⟩)
    | skip
set_option maxHeartbeats 4000000 in
theorem groups_ac [GlobF Tryz.prog] (l : List Dat) (whole : Bool) (h : List AObj) : AC Tryz.prog 86 [sl9 l,.sc (.bool whole)] h (fun v h'=>v = .fn (.func 136) [] [.bp h.length 0,.ep [.sc (.bool whole)]] ∧ h' = h ++ [.cells [sl9 l]]):=by
  refine AC.of_body Tryz.func86 Tryz.ntmps86 rfl rfl rfl ?_
  repeat' first
 | (refine m_box (d:=2) rfl rfl rfl ?_)
 | (apply p1 (hd:=rfl);case hop=>first|(apply D_assign;rfl)|(apply D_box;rfl;rfl)|exact D_mkfn rfl)
 | refine W_seq ?_
 | refine W_region ?_
 | refine WL_nil ?_
 | refine tn ?_
 | (refine W_ret ?_)
  exact retK1 (.inl rfl) rfl rfl (ResO.tmp rfl) ⟨rfl,rfl⟩
set_option maxHeartbeats 16000000 in
theorem groups1_ac [GlobF Tryz.prog] (whole : Bool) (l q : Nat) (I : List Dat → List AObj → Prop) (Stop : List AObj → Prop) {h0 : List AObj} {r0 : List Dat} (hr0 : r0.length < 4611686018427387904) (hI : I r0 h0)
    (hb : ∀ r h,I r h → h[q]? = some (.cells [sl9 r]))
    (hy : ∀ r h n,I r h → 0 < n → n ≤ r.length → grpL (grP whole) r = r.take n :: grpL (grP whole) (r.drop n) → YW Tryz.prog l [sl9 (r.take n)] h (fun bo h'=>(bo = true ∧ h'[q]? = some (.cells [sl9 r]) ∧ I (r.drop n) (h'.set q (.cells [sl9 (r.drop n)]))) ∨ (bo = false ∧ Stop h'))) :
    AC Tryz.prog 136 [.sc (.func (.yield l) #[] #[]),.bp q 0,.ep [.sc (.bool whole)]] h0 (fun _ h'=>I [] h' ∨ Stop h'):=by
  refine AC.of_body Tryz.func136 Tryz.ntmps136 rfl rfl rfl ?_
  repeat' first
 | refine W_seq ?_
 | refine tn ?_
 | refine W_block ?_
 | refine W_label ?_
 | (refine W_scope ?_)
  refine W_loopL (X:=List Dat × List AObj) (fun _=>[(0,.sc (.func (.yield l) #[] #[])),(1,.bp q 0),(2,.ep [.sc (.bool whole)])]) (fun x=>x.2)
    (fun x=>I x.1 x.2 ∧ x.1.length ≤ r0.length) (fun x=>x.1.length) (r0,h0) ⟨hI,Nat.le_refl _⟩ ⟨rfl,rfl,rfl,trivial⟩ rfl ?_
  rintro ⟨r,h⟩ ⟨hI,hlen⟩
  simp only at hI hlen ⊢
  have hq:=hb r h hI
  by_cases hr : r.length = 0
  · have e : r = []:=List.length_eq_zero_iff.1 hr
    subst e
    repeat' first
 | (apply p1 (hd:=rfl);case hop=>first|(apply D_assign;rfl)|(apply D_int;rfl;rfl;rfl)|(apply D_lenM;rfl))
 | refine W_seq ?_
 | refine W_region ?_
 | (refine idC ?_;refine cs rfl (fun _=>?_) (fun _=>?_))
 | refine WL_nil ?_
 | refine tn ?_
 | refine te ?_
 | (refine idB ?_;refine bh rfl ?_)
 | refine W_skip ?_
 | refine W_block ?_
 | refine W_exit ?_
 | refine sn ?_
 | (refine idLd ?_;first|refine p1L (D_loadB1 rfl (by (repeat first|assumption|exact get_last|(refine get_last2 ?_;focus (simp;done))|apply get_set|apply get_app|(apply get_ne;focus omega)|(apply get_ne;focus (simp only [List.length_set,List.length_append,List.length_cons,List.length_nil];omega)));done) (by rfl)) rfl ?_)
    all_goals first
      | exact ret0 (.inr rfl) rfl rfl (.inl hI)
      | (exfalso;simp at *;done)
      | skip
  · have hr1 : 0 < r.length:=Nat.pos_of_ne_zero hr
    repeat' first
 | (apply p1 (hd:=rfl);case hop=>first|(apply D_assign;rfl)|(apply D_int;rfl;rfl;rfl)|(apply D_lenM;rfl))
 | refine W_seq ?_
 | refine W_region ?_
 | (refine idC ?_;refine cs rfl (fun _=>?_) (fun _=>?_))
 | refine WL_nil ?_
 | refine tn ?_
 | refine te ?_
 | (refine idB ?_;refine bh rfl ?_)
 | refine W_skip ?_
 | refine W_block ?_
 | refine W_exit ?_
 | refine sn ?_
 | (refine idLd ?_;first|refine p1L (D_loadB1 rfl (by (repeat first|assumption|exact get_last|(refine get_last2 ?_;focus (simp;done))|apply get_set|apply get_app|(apply get_ne;focus omega)|(apply get_ne;focus (simp only [List.length_set,List.length_append,List.length_cons,List.length_nil];omega)));done) (by rfl)) rfl ?_)
    all_goals first
      | (exfalso;omega)
      | skip
    refine W_loopL (X:=Nat) (fun n=>[(0,.sc (.func (.yield l) #[] #[])),(1,.bp q 0),(2,.ep [.sc (.bool whole)]),(4,.sc (.int .i64 (n : Int)))]) (fun _=>h)
      (fun n=>1 ≤ n ∧ n ≤ r.length ∧ ∀ (j : Nat) (h : j < r.length),1 ≤ j → j < n → grP whole (r[0]'hr1) r[j]) (fun n=>r.length - n) 1 ⟨Nat.le_refl _,hr1,fun j h h1 h2=>by omega⟩ ⟨rfl,rfl,rfl,rfl,trivial⟩ rfl ?_
    rintro n ⟨h1,h2,hz⟩
    have hyn:=fun (hn : ∀ h : n < r.length,¬ grP whole (r[0]'hr1) r[n])=>hy r h n hI (by omega) h2 (grp_at (by omega) h2 hz hn)
    have hnext : ∀ hn : n < r.length,grP whole (r[0]'hr1) r[n] → ∀ (j : Nat) (h : j < r.length),1 ≤ j → j < n + 1 → grP whole (r[0]'hr1) r[j]:=fun hn k j hj h1 h2=>by
      by_cases e : j = n
      · subst e;exact k
      · exact hz j hj h1 (by omega)
    have hnt : Value.bool (bNot true) = .bool false:=by simp [bNot]
    have hnf : Value.bool (bNot false) = .bool true:=by simp [bNot]
    cases whole
    all_goals
      repeat' first
 | (refine dL q (fun hp' hs=>D_loadB1 rfl (hs.trans hq) rfl) rfl ?_)
 | (apply p1 (hd:=rfl);case hop=>first|(apply D_move;rfl)|(apply D_assign;rfl)|exact D_sc (D_not rfl) hnt|exact D_sc (D_not rfl) hnf|(apply D_int;rfl;rfl;rfl)|(apply D_slVhM;rfl;rfl;all_goals first|omega|((repeat rw [w64 _ (by omega) (by omega)]);omega)|decide)|(apply D_slVlM;rfl;rfl;all_goals first|omega|((repeat rw [w64 _ (by omega) (by omega)]);omega)|decide))
 | refine W_seq ?_
 | refine W_region ?_
 | (refine idC ?_;first|refine c1 rfl ?_|refine c0 rfl ?_|refine cs rfl (fun _=>?_) (fun _=>?_))
 | refine WL_nil ?_
 | refine tn ?_
 | refine bn ?_
 | refine te ?_
 | (refine idB ?_;first|refine bh rfl ?_|refine bm rfl ?_)
 | refine W_skip ?_
 | refine W_block ?_
 | refine W_exit ?_
 | refine sn ?_
 | (refine idLd ?_;first|refine p1L (D_loadB1 rfl (by (repeat first|assumption|exact get_last|(refine get_last2 ?_;focus (simp;done))|apply get_set|apply get_app|(apply get_ne;focus omega)|(apply get_ne;focus (simp only [List.length_set,List.length_append,List.length_cons,List.length_nil];omega)));done) (by rfl)) rfl ?_)
 | (refine idS ?_;first|refine pS (S_store rfl rfl rfl (by (repeat first|assumption|exact get_last|(refine get_last2 ?_;focus (simp;done))|apply get_set|apply get_app|(apply get_ne;focus omega)|(apply get_ne;focus (simp only [List.length_set,List.length_append,List.length_cons,List.length_nil];omega)));done) (by rfl) (by rfl) (by rfl)) ?_)
 | (refine m_yield rfl rfl rfl (hyn (by first|(intro h;exfalso;omega)|(intro _ g;exact absurd g.1 (by assumption))|(rintro _ ⟨_,g⟩;exact g.elim (fun g=>Bool.noConfusion g) (fun g=>absurd g (by assumption))))) ?_;rintro bo h' (⟨rfl,hq',hI'⟩ | ⟨rfl,hS⟩))
 | (refine idW ?_;refine W_draw0 rfl ?_)
 | (apply d1 (hd:=rfl);case hop=>first|(apply D_move;rfl)|(apply D_pc (alike_pc (r[0]'hr1) (r[n]'(by omega)));rfl;exact .same rfl (.same rfl .nil))|(apply D_load1;rfl)|(apply D_fld;rfl)|(apply D_pickT;rfl;rfl)|(apply D_pickF;rfl;rfl)|(apply D_int;rfl;rfl;rfl)|(apply D_lenM;rfl)|(apply D_loadW;rfl;rfl)|(apply D_idxAn;rfl;rfl;(first|omega|(simp;done))))
 | (refine idDg ?_;first|refine dg0t rfl rfl rfl ?_|refine dg0f rfl rfl rfl ?_|refine dg0u rfl rfl rfl ?_|refine dgr rfl rfl ?_|refine dgs rfl rfl (fun _=>?_) (fun _=>?_))
 | (refine WD_nil (by first|decide +kernel|kernel_rfl|rfl) ?_)
    all_goals first
      | exact ret0 (.inr rfl) rfl rfl (.inr hS)
      | exact ⟨rfl,n + 1,⟨by omega,by omega,hnext (by omega) ⟨by assumption,.inl rfl⟩⟩,by omega,⟨rfl,rfl,rfl,ieq (wsucc n (by omega)),trivial⟩,rfl⟩
      | exact ⟨rfl,n + 1,⟨by omega,by omega,hnext (by omega) ⟨by assumption,.inr (by assumption)⟩⟩,by omega,⟨rfl,rfl,rfl,ieq (wsucc n (by omega)),trivial⟩,rfl⟩
      | exact ⟨rfl,(r.drop n,h'.set q (.cells [sl9 (r.drop n)])),⟨hI',by simp;omega⟩,by simp;omega,⟨rfl,rfl,rfl,trivial⟩,rfl⟩
      | skip
noncomputable def foldR (l : List Dat) : Option (List Fac):=if dP (∀ d,d ∈ l → dmayP d) = true then foldG (grpL (grP true) (dsortL 1 l)) else none
theorem foldT_cons (now : List Sp) (x : List Dat) (xs : List (List Dat)) : foldT now (x :: xs) = if (bothL x).length = 0 then foldT (tnL now x) xs else none:=rfl
def oneF (g : List Dat) (sp : List Sp) : List Fac:=if sp.length = 0 then [] else [⟨(g.headD dat0).e,(g.headD dat0).a,(g.headD dat0).v,sp⟩]
theorem foldG_ok {S r : List Dat} {n : Nat} {o : List Fac} {sp : List Sp} (hJ : foldG (grpL (grP true) S) = (foldG (grpL (grP true) r)).map (o ++ ·)) (hg : grpL (grP true) r = r.take n :: grpL (grP true) (r.drop n)) (hs : foldT [] (grpL (grP false) (r.take n)) = some sp) :
    foldG (grpL (grP true) S) = (foldG (grpL (grP true) (r.drop n))).map ((o ++ oneF (r.take n) sp) ++ ·):=by
  rw [hJ,hg]
  simp only [foldG,hs]
  cases foldG (grpL (grP true) (r.drop n)) with
  | none=>rfl
  | some x=>simp [oneF]
theorem foldG_no {S r : List Dat} {n : Nat} {o : List Fac} (hJ : foldG (grpL (grP true) S) = (foldG (grpL (grP true) r)).map (o ++ ·)) (hg : grpL (grP true) r = r.take n :: grpL (grP true) (r.drop n)) (hs : foldT [] (grpL (grP false) (r.take n)) = none) :
    foldG (grpL (grP true) S) = none:=by
  rw [hJ,hg]
  simp only [foldG,hs]
  rfl
theorem set_last {A : List AObj} {x y : AObj} : (A ++ [x]).set A.length y = A ++ [y]:=by simp
theorem set0 {A E : List AObj} {x y z w : AObj} : (A ++ [x] ++ [y] ++ [z] ++ E).set A.length w = A ++ [w] ++ [y] ++ [z] ++ E:=by simp
theorem set1 {A E : List AObj} {x y z w : AObj} : (A ++ [x] ++ [y] ++ [z] ++ E).set (A.length + 1) w = A ++ [x] ++ [w] ++ [z] ++ E:=by simp [List.set_append]
theorem set2 {A E : List AObj} {x y z w : AObj} : (A ++ [x] ++ [y] ++ [z] ++ E).set (A.length + 2) w = A ++ [x] ++ [y] ++ [w] ++ E:=by simp [List.set_append]
theorem get1 {A E : List AObj} {x y z : AObj} : (A ++ [x] ++ [y] ++ [z] ++ E)[A.length + 1]? = some y:=by simp [List.getElem?_append]
theorem get2 {A E : List AObj} {x y z : AObj} : (A ++ [x] ++ [y] ++ [z] ++ E)[A.length + 2]? = some z:=by simp [List.getElem?_append]
theorem roundQ_hq {P : Program} [GlobF P] {r l N : Nat} {ps : Array Tmp} {assign body : Code} {rg rg1 : List (Nat × AV)} {K : Bool → List AObj → Prop} {e : Exit} {h h' : List AObj} {mk : Mk} (eh : h = h') (hk : mk.l = [] ∧ RoundQ r l N ps assign body rg K e ⟨rg1,h',mk⟩) : mk.l = [] ∧ RoundQ r l N ps assign body rg K e ⟨rg1,h,mk⟩:=eh ▸ hk
def rgD (l : List Dat) : Prop:=∀ d,d ∈ l → loT ≤ d.fr ∧ d.to ≤ hiT
theorem said_rng {l : List Dat} (hok : okD l) (hr : rgD l) (b : Bool) : ∀ x,inS (saidL l b) x → loT ≤ x ∧ x < hiT:=fun x ⟨s,hs,h1,h2⟩=>by
  unfold saidL at hs
  obtain ⟨d,hd,rfl⟩:=List.mem_map.1 hs
  have:=hr d (List.mem_filter.1 hd).1
  simp only at h1 h2
  omega
theorem tn_ok {now : List Sp} {l : List Dat} (hn : SetP now) (rn : rngS now) (hok : okD l) (hr : rgD l) : SetP (tnL now l) ∧ rngS (tnL now l) ∧ ∀ x,inS (tnL now l) x ↔ ((inS now x ∨ inS (saidL l true) x) ∧ ¬ inS (saidL l false) x):=by
  obtain ⟨a1,a2⟩:=canS_ok (saidL_ne hok true)
  obtain ⟨b1,b2⟩:=canS_ok (saidL_ne hok false)
  obtain ⟨c1,c2⟩:=or_ok hn a1
  have rc : ∀ x,inS (canS (now ++ canS (saidL l true))) x → loT ≤ x ∧ x < hiT:=fun x hx=>by
    rcases (c2 x).1 hx with h|h
    · exact rng_in rn h
    · exact said_rng hok hr true x ((a2 x).1 h)
  obtain ⟨d1,d2⟩:=min_ok c1 b1 rc (rng_of b1 fun x hx=>said_rng hok hr false x ((b2 x).1 hx))
  exact ⟨d1,rng_of d1 fun x hx=>rc x ((d2 x).1 hx).1,fun x=>by rw [show inS (tnL now l) x ↔ _ from d2 x,c2,a2,b2]⟩
abbrev fce (d : Dat) (c : AV) : List AV:=[.sc (.int .i64 d.e),.sc (.int .i64 d.a),.sc (.int .i64 d.v.kind),.sc (.int .i64 d.v.n),str d.v.s,c]
abbrev HF (e : Int) (o : List Fac) (r : List Dat) (X1 X2 : AObj) : List AObj:=[.cells [.sc (.slice none 0 0)],.cells [.sc (.int .i64 e)],.cells [.sl (some 3) 6 (o.map fC)],.tail o.length 6 54,.cells [sl9 r],X1,X2]
theorem HF_snoc (e : Int) (o : List Fac) (f : Fac) (r : List Dat) (X1 X2 : AObj) : HF e (o ++ [f]) r X1 X2 = [.cells [.sc (.slice none 0 0)],.cells [.sc (.int .i64 e)],.cells [.sl (some 3) 6 (o.map fC ++ [fC f])],.tail ((o.map fC).length + 1) 6 54,.cells [sl9 r],X1,X2]:=by simp [HF]
set_option maxHeartbeats 64000000 in
theorem fold_pc [GlobF Tryz.prog] (l : List Dat) (hl : l.length < 1759218604500) (hsl : ∀ d,d ∈ l → d.v.s.length < 9223372036854775808) (hrg : rgD l) : PC Tryz.prog 38 [sl9 l] (.tu [sl6 ((foldR l).getD []),.sc (.int .i64 (if (foldR l).isSome then 0 else 60))]):=by
  have hS:=dsort_pc 1 l hl
  have hSl:=dsortL_len 1 l
  have hSm:=fun (d : Dat) (hd : d ∈ dsortL 1 l)=>((dsort_mem (by decide) l d).1 hd).1
  refine PC.of_body Tryz.func38 Tryz.ntmps38 rfl rfl rfl ?_
  repeat' first
 | (apply p1 (hd:=rfl);case hop=>first|(apply D_move;rfl)|(apply D_lenM;rfl))
 | refine W_seq ?_
 | refine W_region ?_
 | refine WL_nil ?_
 | refine tn ?_
 | refine W_block ?_
 | (refine idA ?_;refine m_alloc rfl ?_)
  refine W_loopL (X:=Nat) (fun i=>[(0,sl9 l),(2,.bp 0 0),(3,.bp 1 0),(12,sl9 l),(13,.sc (.int .i64 (l.length : Int))),(14,.sc (.int .i64 (i : Int)))]) (fun _=>[.cells [.sc (.slice none 0 0)],.cells [.sc (.int .i64 0)]])
    (fun i=>i ≤ l.length ∧ ∀ (j : Nat) (h : j < l.length),j < i → dmayP l[j]) (fun i=>l.length - i) 0 ⟨Nat.zero_le _,fun j h hj=>absurd hj (Nat.not_lt_zero j)⟩ ⟨rfl,rfl,rfl,rfl,rfl,rfl,trivial⟩ rfl ?_
  rintro i ⟨hi,hz⟩
  by_cases hil : i < l.length
  · have hc:=dcheck_pc (l[i]'hil) (hsl _ (List.getElem_mem _))
    by_cases hm : dmayP (l[i]'hil)
    · rw [← dP_T hm,if_pos rfl] at hc
      repeat' first
 | (apply p1 (hd:=rfl);case hop=>first|(apply D_move;rfl)|(apply D_pc hc;rfl;exact .same rfl .nil)|(apply D_int;rfl;rfl;rfl)|(apply D_loadW;rfl;rfl)|(apply D_idxAn;rfl;rfl;(first|omega|(simp;done))))
 | refine W_seq ?_
 | refine W_region ?_
 | (refine idC ?_;refine cs rfl (fun _=>?_) (fun _=>?_))
 | refine WL_nil ?_
 | refine tn ?_
 | refine tr ?_
 | refine br ?_
 | refine bn ?_
 | refine te ?_
 | (refine idB ?_;refine bh rfl ?_)
 | refine W_skip ?_
 | refine W_block ?_
 | refine W_exit ?_
 | refine W_ret ?_
 | (refine idR ?_;first|refine rL2 rfl (by first|exact trivial|exact ⟨rfl,trivial⟩) (by first|exact ResO.tmp rfl|exact ResO.cellBA rfl rfl rfl|exact ResO.cellB1 rfl rfl rfl|exact ResO.cellEA rfl rfl|exact ResO.cellE1 rfl) (by first|exact ResO.tmp rfl|exact ResO.cellBA rfl rfl rfl|exact ResO.cellB1 rfl rfl rfl|exact ResO.cellEA rfl rfl|exact ResO.cellE1 rfl) ?_ ?_)
 | (refine idA ?_;first|refine m_var rfl rfl rfl rfl rfl rfl rfl ?_|refine m_alloc rfl ?_)
 | (refine idS ?_;refine pS (S_store rfl rfl rfl rfl rfl rfl rfl) ?_)
 | (refine Le.int ?_)
      all_goals first
        | contradiction
        | (exfalso;omega)
        | (refine ⟨rfl,i + 1,⟨by omega,fun j h hj=>?_⟩,by omega,⟨rfl,rfl,rfl,rfl,rfl,ieq (wsucc i (by omega)),trivial⟩,rfl⟩
           by_cases e : j = i
           · subst e;exact hm
           · exact hz j h (by omega))
        | skip
    · rw [← dP_F hm,if_neg (by decide)] at hc
      have hR : foldR l = none:=by
        unfold foldR
        rw [← dP_F (fun h=>hm (h _ (List.getElem_mem _))),if_neg (by decide)]
      rw [hR]
      repeat' first
 | (apply p1 (hd:=rfl);case hop=>first|(apply D_move;rfl)|(apply D_pc hc;rfl;exact .same rfl .nil)|(apply D_int;rfl;rfl;rfl)|(apply D_loadW;rfl;rfl)|(apply D_idxAn;rfl;rfl;(first|omega|(simp;done))))
 | refine W_seq ?_
 | refine W_region ?_
 | (refine idC ?_;refine cs rfl (fun _=>?_) (fun _=>?_))
 | refine WL_nil ?_
 | refine tn ?_
 | refine tr ?_
 | refine br ?_
 | refine bn ?_
 | refine te ?_
 | (refine idB ?_;refine bh rfl ?_)
 | refine W_skip ?_
 | refine W_block ?_
 | refine W_exit ?_
 | refine W_ret ?_
 | (refine idR ?_;first|refine rL2 rfl (by first|exact trivial|exact ⟨rfl,trivial⟩) (by first|exact ResO.tmp rfl|exact ResO.cellBA rfl rfl rfl|exact ResO.cellB1 rfl rfl rfl|exact ResO.cellEA rfl rfl|exact ResO.cellE1 rfl) (by first|exact ResO.tmp rfl|exact ResO.cellBA rfl rfl rfl|exact ResO.cellB1 rfl rfl rfl|exact ResO.cellEA rfl rfl|exact ResO.cellE1 rfl) ?_ ?_)
 | (refine idA ?_;first|refine m_var rfl rfl rfl rfl rfl rfl rfl ?_|refine m_alloc rfl ?_)
 | (refine idS ?_;refine pS (S_store rfl rfl rfl rfl rfl rfl rfl) ?_)
 | (refine Le.int ?_)
      all_goals first
        | contradiction
        | (exfalso;omega)
        | exact Le.nil rfl
        | rfl
        | skip
  · have hall : ∀ d,d ∈ l → dmayP d:=fun d hd=>by
      obtain ⟨j,hj,rfl⟩:=List.getElem_of_mem hd
      exact hz j hj (by omega)
    have hR : foldR l = foldG (grpL (grP true) (dsortL 1 l)):=by unfold foldR;rw [← dP_T hall,if_pos rfl]
    rw [hR]
    have hok : ∀ d,d ∈ dsortL 1 l → d.fr < d.to:=fun d hd=>(hall d (hSm d hd)).2.2.2.2.2.2.2
    have hrS : ∀ d,d ∈ dsortL 1 l → loT ≤ d.fr ∧ d.to ≤ hiT:=fun d hd=>hrg d (hSm d hd)
    generalize dsortL 1 l = S at *
    repeat' first
 | (refine WL_adoptC 2 0 6 54 rfl rfl ?_)
 | (apply p1 (hd:=rfl);case hop=>first|(apply D_move;rfl)|(apply D_pc hS;rfl;exact .same rfl (.same rfl .nil))|(apply D_int;rfl;rfl;rfl)|(apply D_loadW;rfl;rfl)|(apply D_idxAn;rfl;rfl;(first|omega|(simp;done))))
 | refine W_seq ?_
 | refine W_region ?_
 | (refine idC ?_;refine cs rfl (fun _=>?_) (fun _=>?_))
 | refine WL_nil ?_
 | refine tn ?_
 | refine te ?_
 | (refine idB ?_;refine bh rfl ?_)
 | refine W_skip ?_
 | refine W_block ?_
 | refine W_exit ?_
 | (refine idA ?_;first|refine m_var rfl rfl rfl rfl rfl rfl rfl ?_|refine m_alloc rfl ?_)
 | (refine m_call (d:=24) (groups_ac S true _) rfl rfl rfl ?_;rintro _ _ ⟨rfl,rfl⟩)
    · exfalso;omega
    refine W_weak (s':=⟨[(2,.bp 0 0),(3,.bp 1 0),(6,.bp 2 0),(24,.fn (.func 136) [] [.bp 4 0,.ep [.sc (.bool true)]])],[.cells [.sc (.slice none 0 0)],.cells [.sc (.int .i64 0)],.cells [.sl (some 3) 6 []],.tail 0 6 54,.cells [sl9 S]],⟨[],0⟩⟩) ⟨⟨rfl,rfl,rfl,rfl,trivial⟩,rfl,rfl⟩ ?_
    refine W_rangeX (.inl rfl) fun l1 X hX=>?_
    refine AC.mono (groups1_ac true l1 4 (fun r h=>∃ o ex,h = HF 0 o r (.raw (.deferred (some []))) (X .ready none) ++ ex ∧ foldG (grpL (grP true) S) = (foldG (grpL (grP true) r)).map (o ++ ·) ∧ o.length + r.length ≤ S.length ∧ ∃ k,r = S.drop k)
      (fun h=>foldG (grpL (grP true) S) = none ∧ ∃ o r ex,h = HF 60 o r (.raw (.deferred (some []))) (X .done (some .ret)) ++ ex) (r0:=S) (by omega) ⟨[],[],rfl,?_,by simp,0,rfl⟩ ?_ ?_) ?_
    · cases foldG (grpL (grP true) S) <;> rfl
    · rintro r h ⟨o,ex,rfl,_⟩;rfl
    · rintro r h n ⟨o,ex,rfl,hJ,hlen,k,hk⟩ hn0 hn1 hg
      refine YW.round (r:=6) (ps:=[25]) ((show _ = some (X .ready none) from rfl).trans (congrArg some (hX .ready none))) rfl rfl ?_
      repeat' first
 | (apply p1 (hd:=rfl);case hop=>first|(apply D_assign;rfl))
 | refine W_region ?_
 | (refine WL_nil ?_)
      refine ⟨rfl,(show _ = some (X .ready none) from rfl).trans (congrArg some (hX .ready none)),?_⟩
      refine W_hq (h':=HF 0 o r (.raw (.deferred (some []))) (X .busy none) ++ ex) (by rw [hX .busy none];rfl) ?_
      generalize hgd : r.take n = g at *
      obtain ⟨d0,hd0⟩ : ∃ d0,d0 = g.headD dat0:=⟨_,rfl⟩
      have hgl : 0 < g.length:=by rw [← hgd];simp;omega
      have hg0 : g[0]'hgl = d0:=by rw [hd0];cases g with
        | nil=>simp at hgl
        | cons x t=>rfl
      repeat' first
 | (refine idW ?_;refine W_dS1 (id:=10) 14 rfl rfl (by decide +kernel) ?_;simp only [List.take_succ_cons,List.take_zero,List.drop_succ_cons,List.drop_zero])
 | (refine dV (S_alloc _ get_last) (by simp [Nat.blt_eq]) rfl ?_)
 | (apply p1 (hd:=rfl);case hop=>first|(apply D_move;rfl))
 | refine W_seq ?_
 | refine W_region ?_
 | refine WL_nil ?_
 | refine tn ?_
 | refine W_block ?_
 | (refine idS ?_;first|refine pS (S_store rfl rfl rfl (by (repeat first|assumption|exact get_last|(refine get_last2 ?_;focus (simp;done))|apply get_set|apply get_app|(apply get_ne;focus omega)|(apply get_ne;focus (simp only [List.length_set,List.length_append,List.length_cons,List.length_nil];omega)));done) (by rfl) (by rfl) (by rfl)) ?_)
 | (apply d1 (hd:=rfl);case hop=>first|(apply D_move;rfl)|(apply D_load1;rfl)|(apply D_fld;rfl)|(apply D_loadA;rfl;rfl)|(apply D_idxAn;rfl;rfl;(first|omega|(simp;done)))|exact D_build rfl)
 | (refine WD_nil (by first|decide +kernel|kernel_rfl|rfl) ?_)
      refine WL_hq (h':=HF 0 o r (.raw (.deferred (some []))) (X .busy none) ++ ex ++ [.cells (fce (g[0]'hgl) (.sc (.slice none 0 0)))]) (by rw [set_last,set_last];rfl) ?_
      rw [hg0]
      repeat' first
 | refine WL_nil ?_
 | refine tn ?_
 | refine W_block ?_
 | (refine m_call (d:=40) (groups_ac g false _) rfl rfl rfl ?_;rintro _ _ ⟨rfl,rfl⟩)
      obtain ⟨A,hA⟩ : ∃ A,A = HF 0 o r (.raw (.deferred (some []))) (X .busy none) ++ ex:=⟨_,rfl⟩
      have hgS : ∀ d,d ∈ g → d ∈ S:=fun d hd=>by
        rw [← hgd] at hd
        have:=List.mem_of_mem_take hd
        rw [hk] at this
        exact List.mem_of_mem_drop this
      have hgn : g.length ≤ S.length:=by rw [← hgd,hk];simp;omega
      refine W_weak (s':=⟨[(2,.bp 0 0),(3,.bp 1 0),(6,.bp 2 0),(8,.bp (HF 0 o r (.raw (.deferred (some []))) (X .busy none) ++ ex).length 0),(40,.fn (.func 136) [] [.bp ((HF 0 o r (.raw (.deferred (some []))) (X .busy none) ++ ex).length + 1) 0,.ep [.sc (.bool false)]])],HF 0 o r (.raw (.deferred (some []))) (X .busy none) ++ ex ++ [AObj.cells (fce d0 (.sc (.slice none 0 0)))] ++ [.cells [sl9 g]],⟨[],_⟩⟩) ⟨⟨rfl,rfl,rfl,rfl,congrArg (fun n=>some (AV.fn (.func 136) [] [.bp n 0,.ep [.sc (.bool false)]])) (by simp),trivial⟩,rfl,rfl⟩ ?_
      refine W_rangeNX (r0:=6) ((show _ = some (X .busy none) from rfl).trans (congrArg some (hX .busy none))) (.inl rfl) fun l2 Y hY=>?_
      rw [show (HF 0 o r (.raw (.deferred (some []))) (X .busy none) ++ ex ++ [AObj.cells (fce d0 (.sc (.slice none 0 0)))] ++ [AObj.cells [sl9 g]]).length = (HF 0 o r (.raw (.deferred (some []))) (X .busy none) ++ ex).length + 2 from by simp]
      refine AC.mono (groups1_ac false l2 _ (fun r2 h=>∃ now c ex2,h = HF 0 o r (.raw (.deferred (some []))) (X .busy none) ++ ex ++ [.cells (fce d0 c)] ++ [.cells [sl9 r2]] ++ [Y .ready none] ++ ex2 ∧ ((c = .sc (.slice none 0 0) ∧ now = []) ∨ c = sl2 now) ∧ SetP now ∧ rngS now ∧ foldT [] (grpL (grP false) g) = foldT now (grpL (grP false) r2) ∧ now.length + 2 * r2.length ≤ 2 * g.length ∧ ∃ k,r2 = g.drop k)
        (fun h=>foldT [] (grpL (grP false) g) = none ∧ ∃ c r2 ex2,h = HF 60 o r (.raw (.deferred (some []))) (X .busy none) ++ ex ++ [.cells (fce d0 c)] ++ [.cells [sl9 r2]] ++ [Y .done (some .ret)] ++ ex2) (r0:=g) (by omega) ⟨[],.sc (.slice none 0 0),[],by simp,.inl ⟨rfl,rfl⟩,.nil,fun s hs=>by simp at hs,rfl,by simp,0,rfl⟩ ?_ ?_) ?_
      · rintro r2 h ⟨now,c,ex2,rfl,_⟩;exact get1
      · rintro r2 h n2 ⟨now,c,ex2,rfl,hc,hset,hrn,hT,hl2,k2,hk2⟩ hn2 hn3 hg2
        have hx0 : ∀ d,d ∈ r2.take n2 → d ∈ g:=fun d hd=>by
          have:=List.mem_of_mem_take hd
          rw [hk2] at this
          exact List.mem_of_mem_drop this
        have hxo : okD (r2.take n2):=fun d hd=>hok d (hgS d (hx0 d hd))
        have hxr : rgD (r2.take n2):=fun d hd=>hrS d (hgS d (hx0 d hd))
        have hxl : (r2.take n2).length = n2:=by simp;omega
        have htl:=tn_len now (r2.take n2)
        have ht:=turned_pc now (r2.take n2) hset hxo (by omega)
        obtain ⟨hts,htr,_⟩:=tn_ok hset hrn hxo hxr
        have hdl : (r2.drop n2).length = r2.length - n2:=by simp
        have hkk : ∃ k,r2.drop n2 = g.drop k:=⟨k2 + n2,by rw [hk2,List.drop_drop]⟩
        rw [hg2,foldT_cons] at hT
        generalize hxd : r2.take n2 = x at *
        refine YW.round (r:=(HF 0 o r (.raw (.deferred (some []))) (X .busy none) ++ ex).length + 2) (ps:=[41]) (get2.trans (congrArg some (hY .ready none))) rfl rfl ?_
        repeat' first
 | (apply p1 (hd:=rfl);case hop=>first|(apply D_assign;rfl))
 | refine W_region ?_
 | (refine WL_nil ?_)
        refine ⟨rfl,get2.trans (congrArg some (hY .ready none)),?_⟩
        refine W_hq (h':=HF 0 o r (.raw (.deferred (some []))) (X .busy none) ++ ex ++ [.cells (fce d0 c)] ++ [.cells [sl9 r2]] ++ [Y .busy none] ++ ex2) (by rw [hY .busy none,set2]) ?_
        have hnt : Value.bool (bNot true) = .bool false:=by simp [bNot]
        have hnf : Value.bool (bNot false) = .bool true:=by simp [bNot]
        by_cases hb0 : (bothL x).length = 0
        · rw [if_pos hb0] at hT
          rw [← dP_T hb0] at ht
          rcases hc with ⟨rfl,rfl⟩|rfl
          all_goals
            repeat' first
 | (apply p1 (hd:=rfl);case hop=>first|(apply D_move;rfl)|(apply D_assign;rfl)|exact D_sc (D_not rfl) hnt|(apply D_pc ht;rfl;first|exact .same rfl (.same rfl .nil)|exact .niln rfl (.same rfl .nil))|(apply D_ext;rfl;rfl)|exact D_fldB rfl)
 | refine W_seq ?_
 | refine W_region ?_
 | (refine idC ?_;refine c0 rfl ?_)
 | refine WL_nil ?_
 | refine tn ?_
 | refine bn ?_
 | refine W_skip ?_
 | refine W_block ?_
 | (refine idLd ?_;first|refine p1L (D_loadB1 rfl (by (repeat first|assumption|exact get_last|(refine get_last2 ?_;focus (simp;done))|apply get_set|apply get_app|(apply get_ne;focus omega)|(apply get_ne;focus (simp only [List.length_set,List.length_append,List.length_cons,List.length_nil];omega)));done) (by rfl)) rfl ?_)
 | (refine idS ?_;first|refine pS (S_store rfl rfl rfl (by (repeat first|assumption|exact get_last|(refine get_last2 ?_;focus (simp;done))|apply get_set|apply get_app|(apply get_ne;focus omega)|(apply get_ne;focus (simp only [List.length_set,List.length_append,List.length_cons,List.length_nil];omega)));done) (by rfl) (by rfl) (by rfl)) ?_)
          all_goals
            refine roundQ_hq (P:=Tryz.prog) (h':=HF 0 o r (.raw (.deferred (some []))) (X .busy none) ++ ex ++ [.cells (fce d0 (sl2 (tnL _ x)))] ++ [.cells [sl9 r2]] ++ [Y .busy none] ++ ex2) (by rw [set0];rfl) ?_
            refine ⟨rfl,⟨_,_,get2.trans (congrArg some (hY .busy none))⟩,.inl ⟨rfl,?_⟩⟩
            dsimp only
            rw [← hY .ready none,set2]
            refine ⟨get1,_,_,ex2,set1,.inr rfl,hts,htr,hT,?_,hkk⟩
            omega
        · rw [if_neg hb0] at hT
          rw [← dP_F hb0] at ht
          rcases hc with ⟨rfl,rfl⟩|rfl
          all_goals
            repeat' first
 | (apply p1 (hd:=rfl);case hop=>first|(apply D_move;rfl)|(apply D_assign;rfl)|exact D_sc (D_not rfl) hnf|(apply D_pc ht;rfl;first|exact .same rfl (.same rfl .nil)|exact .niln rfl (.same rfl .nil))|(apply D_ext;rfl;rfl)|exact D_fldB rfl)
 | refine W_seq ?_
 | refine W_region ?_
 | (refine idC ?_;refine c1 rfl ?_)
 | refine WL_nil ?_
 | refine tn ?_
 | refine tr ?_
 | refine br ?_
 | refine W_block ?_
 | refine W_ret ?_
 | (refine idLd ?_;first|refine p1L (D_loadB1 rfl (by (repeat first|assumption|exact get_last|(refine get_last2 ?_;focus (simp;done))|apply get_set|apply get_app|(apply get_ne;focus omega)|(apply get_ne;focus (simp only [List.length_set,List.length_append,List.length_cons,List.length_nil];omega)));done) (by rfl)) rfl ?_)
 | (refine idS ?_;refine pS (S_store rfl rfl rfl rfl rfl rfl rfl) ?_)
          all_goals
            refine roundQ_hq (P:=Tryz.prog) (h':=HF 60 o r (.raw (.deferred (some []))) (X .busy none) ++ ex ++ [.cells (fce d0 _)] ++ [.cells [sl9 r2]] ++ [Y .busy none] ++ ex2) rfl ?_
            refine ⟨rfl,⟨_,_,get2.trans (congrArg some (hY .busy none))⟩,.inr ⟨rfl,hT,?_⟩⟩
            dsimp only
            rw [← hY .done (some .ret)]
            exact ⟨_,r2,ex2,set2⟩
      · rintro v h' (⟨now,c,ex2,rfl,hc,hset,hrn,hT,hl2,_⟩ | ⟨hT,c,r2,ex2,rfl⟩)
        · refine ⟨.ready,none,get2.trans (congrArg some (hY .ready none)),by decide,?_⟩
          dsimp only
          rw [grpL_nil] at hT
          have hT' : foldT [] (grpL (grP false) g) = some now:=hT
          rw [set2]
          have hok1:=foldG_ok hJ (by rw [hgd];exact hg) (by rw [hgd];exact hT')
          rw [hgd] at hok1
          have hdl : (r.drop n).length = r.length - n:=by simp
          have hkk : ∃ k,r.drop n = S.drop k:=⟨k + n,by rw [hk,List.drop_drop]⟩
          have hno : now.length = 0 → foldG (grpL (grP true) S) = (foldG (grpL (grP true) (r.drop n))).map (o ++ ·):=fun e=>by
            rw [hok1,oneF,if_pos e,List.append_nil]
          have hyes : ¬ now.length = 0 → foldG (grpL (grP true) S) = (foldG (grpL (grP true) (r.drop n))).map ((o ++ [⟨d0.e,d0.a,d0.v,now⟩]) ++ ·):=fun e=>by
            rw [hok1,oneF,if_neg e,hd0]
          rcases hc with ⟨rfl,rfl⟩|rfl
          · repeat' first
 | (apply p1 (hd:=rfl);case hop=>first|(apply D_int;rfl;rfl;rfl)|(apply D_len_nil;rfl)|(apply D_lit;rfl;rfl;rfl;rfl)|exact D_fldB rfl)
 | refine W_seq ?_
 | refine W_region ?_
 | (refine idC ?_;refine cs rfl (fun _=>?_) (fun _=>?_))
 | refine WL_nil ?_
 | refine tn ?_
 | refine bn ?_
 | refine W_skip ?_
 | (refine idLd ?_;first|refine p1L (D_loadB1 rfl rfl rfl) rfl ?_|refine p1L (D_loadB1 rfl (by (repeat first|assumption|exact get_last|(refine get_last2 ?_;focus (simp;done))|apply get_set|apply get_app|(apply get_ne;focus omega)|(apply get_ne;focus (simp only [List.length_set,List.length_append,List.length_cons,List.length_nil];omega)));done) (by rfl)) rfl ?_|refine p1L (D_loadBA rfl (by (repeat first|assumption|exact get_last|(refine get_last2 ?_;focus (simp;done))|apply get_set|apply get_app|(apply get_ne;focus omega)|(apply get_ne;focus (simp only [List.length_set,List.length_append,List.length_cons,List.length_nil];omega)));done) (by rfl)) rfl ?_)
 | (refine idS ?_;refine pS (S_store rfl rfl rfl rfl rfl rfl rfl) ?_)
 | (refine idAp ?_;refine m_appB rfl rfl rfl (by first|rfl|assumption|exact get_set (by assumption)|exact get_set (get_set (by assumption))|exact get_set (get_set (get_set (by assumption)))|((repeat first|assumption|exact get_last|(refine get_last2 ?_;focus (simp;done))|apply get_set|apply get_app|(apply get_ne;focus omega));done)) ?_ rfl rfl ?_ ?_ rfl ?_;(first|rfl|focus (simp only [List.length_map,List.length_append,List.length_cons,List.length_nil];omega)|focus (simp;done)|focus (simp;omega));(first|focus (simp only [List.length_map,List.length_append,List.length_cons,List.length_nil];omega)|focus (simp;done)|focus (simp;omega));(first|focus (simp only [List.length_map,List.length_append,List.length_cons,List.length_nil];omega)|focus (simp;done)|focus (simp;omega)))
            all_goals first
              | (exfalso;omega)
              | skip
            refine ⟨rfl,⟨_,_,(show _ = some (X .busy none) from rfl).trans (congrArg some (hX .busy none))⟩,.inl ⟨rfl,?_⟩⟩
            dsimp only
            rw [← hX .ready none]
            exact ⟨rfl,o,ex ++ [.cells (fce d0 (.sc (.slice none 0 0)))] ++ [.cells [sl9 []]] ++ [.dead] ++ ex2,rfl,hno rfl,by omega,hkk⟩
          · repeat' first
 | (apply p1 (hd:=rfl);case hop=>first|(apply D_int;rfl;rfl;rfl)|(apply D_lenM;rfl)|(apply D_lit;rfl;rfl;rfl;rfl)|exact D_fldB rfl)
 | refine W_seq ?_
 | refine W_region ?_
 | (refine idC ?_;refine cs rfl (fun _=>?_) (fun _=>?_))
 | refine WL_nil ?_
 | refine tn ?_
 | refine bn ?_
 | refine W_skip ?_
 | (refine idLd ?_;first|refine p1L (D_loadB1 rfl rfl rfl) rfl ?_|refine p1L (D_loadB1 rfl (by (repeat first|assumption|exact get_last|(refine get_last2 ?_;focus (simp;done))|apply get_set|apply get_app|(apply get_ne;focus omega)|(apply get_ne;focus (simp only [List.length_set,List.length_append,List.length_cons,List.length_nil];omega)));done) (by rfl)) rfl ?_|refine p1L (D_loadBA rfl (by (repeat first|assumption|exact get_last|(refine get_last2 ?_;focus (simp;done))|apply get_set|apply get_app|(apply get_ne;focus omega)|(apply get_ne;focus (simp only [List.length_set,List.length_append,List.length_cons,List.length_nil];omega)));done) (by rfl)) rfl ?_)
 | (refine idS ?_;refine pS (S_store rfl rfl rfl rfl rfl rfl rfl) ?_)
 | (refine idAp ?_;refine m_appB rfl rfl rfl (by first|rfl|assumption|exact get_set (by assumption)|exact get_set (get_set (by assumption))|exact get_set (get_set (get_set (by assumption)))|((repeat first|assumption|exact get_last|(refine get_last2 ?_;focus (simp;done))|apply get_set|apply get_app|(apply get_ne;focus omega));done)) ?_ rfl rfl ?_ ?_ rfl ?_;(first|rfl|focus (simp only [List.length_map,List.length_append,List.length_cons,List.length_nil];omega)|focus (simp;done)|focus (simp;omega));(first|focus (simp only [List.length_map,List.length_append,List.length_cons,List.length_nil];omega)|focus (simp;done)|focus (simp;omega));(first|focus (simp only [List.length_map,List.length_append,List.length_cons,List.length_nil];omega)|focus (simp;done)|focus (simp;omega)))
            all_goals first
              | (have e : now.length = 0:=by omega
                 refine ⟨rfl,⟨_,_,(show _ = some (X .busy none) from rfl).trans (congrArg some (hX .busy none))⟩,.inl ⟨rfl,?_⟩⟩
                 dsimp only
                 rw [← hX .ready none]
                 exact ⟨rfl,o,ex ++ [.cells (fce d0 (sl2 now))] ++ [.cells [sl9 []]] ++ [.dead] ++ ex2,rfl,hno e,by omega,hkk⟩)
              | (have e : ¬ now.length = 0:=by omega
                 refine roundQ_hq (P:=Tryz.prog) (h':=HF 0 (o ++ [⟨d0.e,d0.a,d0.v,now⟩]) r (.raw (.deferred (some []))) (X .busy none) ++ (ex ++ [.cells (fce d0 (sl2 now))] ++ [.cells [sl9 []]] ++ [.dead] ++ ex2)) (by rw [HF_snoc];rfl) ?_
                 refine ⟨rfl,⟨_,_,(show _ = some (X .busy none) from rfl).trans (congrArg some (hX .busy none))⟩,.inl ⟨rfl,?_⟩⟩
                 dsimp only
                 rw [← hX .ready none]
                 refine ⟨rfl,o ++ [⟨d0.e,d0.a,d0.v,now⟩],ex ++ [.cells (fce d0 (sl2 now))] ++ [.cells [sl9 []]] ++ [.dead] ++ ex2,rfl,hyes e,?_,hkk⟩
                 rw [List.length_append,List.length_singleton];omega)
              | skip
        · refine ⟨.done,some .ret,get2.trans (congrArg some (hY .done (some .ret))),by decide,?_⟩
          dsimp only
          rw [show (HF 0 o r (.raw (.deferred (some []))) (X .busy none) ++ ex).length = (HF 60 o r (.raw (.deferred (some []))) (X .busy none) ++ ex).length from rfl,set2]
          have hno1:=foldG_no hJ (by rw [hgd];exact hg) (by rw [hgd];exact hT)
          repeat' first
 | refine tr ?_
 | (refine br ?_)
          refine ⟨rfl,⟨_,_,(show _ = some (X .busy none) from rfl).trans (congrArg some (hX .busy none))⟩,.inr ⟨rfl,hno1,?_⟩⟩
          dsimp only
          rw [← hX .done (some .ret)]
          exact ⟨o,r,ex ++ [.cells (fce d0 c)] ++ [.cells [sl9 r2]] ++ [.dead] ++ ex2,rfl⟩
    · rintro v h' (⟨o,ex,rfl,hJ,_⟩ | ⟨hJ,o,r,ex,rfl⟩)
      · refine ⟨.ready,none,(show _ = some (X .ready none) from rfl).trans (congrArg some (hX .ready none)),by decide,?_⟩
        rw [hJ,grpL_nil]
        have e : (foldG []).map (o ++ ·) = some o:=by simp [foldG]
        rw [e]
        repeat' first
 | refine W_seq ?_
 | refine W_region ?_
 | refine WL_nil ?_
 | refine tn ?_
 | refine bn ?_
 | refine W_ret ?_
 | (refine idR ?_;first|refine rL2 rfl (by first|exact trivial|exact ⟨rfl,trivial⟩) (by first|exact ResO.tmp rfl|exact ResO.cellBA rfl rfl rfl|exact ResO.cellB1 rfl rfl rfl|exact ResO.cellEA rfl rfl|exact ResO.cellE1 rfl) (by first|exact ResO.tmp rfl|exact ResO.cellBA rfl rfl rfl|exact ResO.cellB1 rfl rfl rfl|exact ResO.cellEA rfl rfl|exact ResO.cellE1 rfl) ?_ ?_)
 | (refine idLd ?_;refine p1L (D_loadB1 rfl rfl rfl) rfl ?_)
 | (refine idS ?_;refine pS (S_store rfl rfl rfl rfl rfl rfl rfl) ?_)
 | (refine Le.int ?_)
        all_goals first
          | exact Le.tokq rfl
          | rfl
      · refine ⟨.done,some .ret,(show _ = some (X .done (some .ret)) from rfl).trans (congrArg some (hX .done (some .ret))),by decide,?_⟩
        rw [hJ]
        repeat' first
 | refine tr ?_
 | refine br ?_
 | (refine idR ?_;first|refine rL2 rfl (by first|exact trivial|exact ⟨rfl,trivial⟩) (by first|exact ResO.tmp rfl|exact ResO.cellBA rfl rfl rfl|exact ResO.cellB1 rfl rfl rfl|exact ResO.cellEA rfl rfl|exact ResO.cellE1 rfl) (by first|exact ResO.tmp rfl|exact ResO.cellBA rfl rfl rfl|exact ResO.cellB1 rfl rfl rfl|exact ResO.cellEA rfl rfl|exact ResO.cellE1 rfl) ?_ ?_)
 | (refine Le.int ?_)
        all_goals first
          | exact Le.nil rfl
          | rfl
theorem Fac.ext' {a b : Fac} (h1 : a.e = b.e) (h2 : a.a = b.a) (h3 : a.v = b.v) (h4 : a.sp = b.sp) : a = b:=by
  obtain ⟨e,c,v,s⟩:=a
  obtain ⟨e',c',v',s'⟩:=b
  simp at h1 h2 h3 h4
  subst h1;subst h2;subst h3;subst h4;rfl
theorem meet_nil_of {a b : List Sp} (ha : SetP a) (hb : SetP b) (h : ∀ x,¬ (inS a x ∧ inS b x)) : (meetL a b).length = 0:=by
  obtain ⟨k1,k2⟩:=and_ok ha hb
  rw [set_empty k1 fun x hx=>h x ((k2 x).1 hx)];rfl
theorem grpL_flat (p : Dat → Dat → Prop) : ∀ (n : Nat) (l : List Dat),l.length ≤ n → (grpL p l).flatten = l ∧ ∀ g,g ∈ grpL p l → 0 < g.length
  | _,[],_=>by rw [grpL_nil];exact ⟨rfl,fun g h=>by simp at h⟩
  | 0,_ :: _,h=>by simp at h
  | n + 1,d :: l,h=>by
    have hd:=(List.dropWhile_sublist (p:=tst p d) (l:=l)).length_le
    obtain ⟨h1,h2⟩:=grpL_flat p n (l.dropWhile (tst p d)) (by simp at h;omega)
    rw [grpL_cons]
    refine ⟨?_,fun g hg=>?_⟩
    · rw [List.flatten_cons,h1,List.cons_append,List.takeWhile_append_dropWhile]
    · rcases List.mem_cons.1 hg with rfl|hg
      · simp
      · exact h2 g hg
theorem foldT_len : ∀ (xs : List (List Dat)) (now sp : List Sp),foldT now xs = some sp → (∀ x,x ∈ xs → 0 < x.length) → sp.length ≤ now.length + 2 * xs.flatten.length
  | [],now,sp,h,_=>by simp [foldT] at h;subst h;omega
  | x :: xs,now,sp,h,hp=>by
    rw [foldT_cons] at h
    split at h
    · have:=foldT_len xs _ sp h fun y hy=>hp y (List.mem_cons_of_mem _ hy)
      have h1:=tn_len now x
      have h2:=hp x List.mem_cons_self
      rw [List.flatten_cons,List.length_append];omega
    · cases h
theorem foldG_len : ∀ (gs : List (List Dat)) (F : List Fac),foldG gs = some F → (∀ g,g ∈ gs → 0 < g.length) → F.length ≤ gs.flatten.length ∧ ∀ f,f ∈ F → f.sp.length ≤ 2 * gs.flatten.length
  | [],F,h,_=>by simp [foldG] at h;subst h;exact ⟨Nat.zero_le _,fun f hf=>by simp at hf⟩
  | g :: gs,F,h,hp=>by
    have hg:=hp g List.mem_cons_self
    simp only [foldG] at h
    cases h1 : foldT [] (grpL (grP false) g) with
    | none=>simp [h1] at h
    | some sp =>
      cases h2 : foldG gs with
      | none=>simp [h1,h2] at h
      | some r =>
        simp only [h1,h2,Option.some.injEq] at h
        obtain ⟨k1,k2⟩:=foldG_len gs r h2 fun y hy=>hp y (List.mem_cons_of_mem _ hy)
        obtain ⟨f1,f2⟩:=grpL_flat (grP false) g.length g (Nat.le_refl _)
        have k3:=foldT_len _ _ _ h1 f2
        rw [f1] at k3
        simp only [List.length_nil,Nat.zero_add] at k3
        rw [List.flatten_cons,List.length_append]
        subst h
        by_cases hs : sp.length = 0
        · rw [if_pos hs]
          exact ⟨by rw [List.nil_append];omega,fun f hf=>by have:=k2 f hf;omega⟩
        · rw [if_neg hs]
          refine ⟨by rw [List.length_append,List.length_singleton];omega,fun f hf=>?_⟩
          rcases List.mem_append.1 hf with hf|hf
          · rw [List.mem_singleton.1 hf];show sp.length ≤ _;omega
          · have:=k2 f hf;omega
theorem foldR_len (l : List Dat) : ((foldR l).getD []).length ≤ l.length ∧ ∀ f,f ∈ (foldR l).getD [] → f.sp.length ≤ 2 * l.length:=by
  unfold foldR
  split
  · cases h : foldG (grpL (grP true) (dsortL 1 l)) with
    | none=>exact ⟨Nat.zero_le _,fun f hf=>by simp at hf⟩
    | some F =>
      obtain ⟨f1,f2⟩:=grpL_flat (grP true) _ (dsortL 1 l) (Nat.le_refl _)
      obtain ⟨k1,k2⟩:=foldG_len _ _ h f2
      rw [f1] at k1 k2
      have:=dsortL_len 1 l
      exact ⟨by simp;omega,fun f hf=>by have:=k2 f (by simpa using hf);omega⟩
  · exact ⟨Nat.zero_le _,fun f hf=>by simp at hf⟩
theorem bndG.f {l : List Fac} (h : bndG l) : bndF l:=fun f hf=>⟨(h f hf).1,by have:=(h f hf).2;omega⟩
theorem wc_cmpF : WC cmpF:=by
  have e : cmpF = fun a b=>if cmpI a.e b.e = 0 then (if cmpI a.a b.a = 0 then cmpV a.v b.v else cmpI a.a b.a) else cmpI a.e b.e:=by
    funext a b
    simp only [cmpF,orI]
    split
    · split
      · split
        · rename_i h;exact h.symm
        · rfl
      · rfl
    · rfl
  rw [e]
  exact (wc_cmpI.comap Fac.e).lex ((wc_cmpI.comap Fac.a).lex (wc_cmpV.comap Fac.v))
theorem cmpF_z (a b : Fac) : cmpF a b = 0 ↔ a.e = b.e ∧ a.a = b.a ∧ a.v = b.v:=by
  simp only [cmpF,orI]
  constructor
  · intro h
    split at h
    · rename_i h1
      split at h
      · rename_i h2
        split at h
        · rename_i h3;exact ⟨(cmpI_z _ _).1 h1,(cmpI_z _ _).1 h2,(cmpV_z _ _).1 h3⟩
        · contradiction
      · contradiction
    · contradiction
  · rintro ⟨h1,h2,h3⟩
    rw [if_pos ((cmpI_z _ _).2 h1),if_pos ((cmpI_z _ _).2 h2),if_pos ((cmpV_z _ _).2 h3)]
def riseF (l : List Fac) : Prop:=l.Pairwise fun a b=>cmpF a b < 0
theorem allF_rise {l : List Fac} (h : allF l) : riseF l:=by
  refine List.pairwise_iff_getElem.2 fun i j hi hj hij=>?_
  induction j with
  | zero=>omega
  | succ j ih =>
    have hs:=(h (j + 1) hj hj).2 (by omega)
    simp only [Nat.add_sub_cancel] at hs
    rcases Nat.lt_or_ge i j with h1|h1
    · have:=ih (by omega) h1
      exact wc_cmpF.lt (by omega) (by omega : cmpF l[j] l[j + 1] ≤ 0) (.inl this)
    · have e : i = j:=by omega
      subst e;exact hs
open Classical in
noncomputable def findL (l : List Fac) (f : Fac) : List Sp:=((l.find? fun g=>decide (cmpF g f = 0)).map Fac.sp).getD []
theorem grpL_flat' (p : Dat → Dat → Prop) : ∀ (n : Nat) (l : List Dat),l.length ≤ n → (grpL p l).flatten = l ∧ ∀ g,g ∈ grpL p l → 0 < g.length
  | _,[],_=>by rw [grpL_nil];exact ⟨rfl,fun g h=>by simp at h⟩
  | 0,_ :: _,h=>by simp at h
  | n + 1,d :: l,h=>by
    have hd:=(List.dropWhile_sublist (p:=tst p d) (l:=l)).length_le
    obtain ⟨h1,h2⟩:=grpL_flat' p n (l.dropWhile (tst p d)) (by simp at h;omega)
    rw [grpL_cons]
    refine ⟨?_,fun g hg=>?_⟩
    · rw [List.flatten_cons,h1,List.cons_append,List.takeWhile_append_dropWhile]
    · rcases List.mem_cons.1 hg with rfl|hg
      · simp
      · exact h2 g hg
theorem mem_tw {p : Dat → Bool} : ∀ (l : List Dat) {a : Dat},a ∈ l.takeWhile p → p a = true
  | [],a,h=>by simp at h
  | x :: l,a,h=>by
    rw [List.takeWhile_cons] at h
    by_cases hx : p x = true
    · rw [if_pos hx] at h
      rcases List.mem_cons.1 h with rfl|h
      · exact hx
      · exact mem_tw l h
    · rw [if_neg hx] at h;simp at h
def covD (d : Dat) (x : Int) : Prop:=d.fr ≤ x ∧ x < d.to
def holdP (g : List Dat) (x : Int) : Prop:=∃ d,d ∈ g ∧ d.add = true ∧ covD d x ∧ ∀ d',d' ∈ g → covD d' x → d'.t ≤ d.t
def confP (g : List Dat) : Prop:=∃ d,d ∈ g ∧ ∃ d',d' ∈ g ∧ d.t = d'.t ∧ d.add = true ∧ d'.add = false ∧ ∃ x,covD d x ∧ covD d' x
theorem inSaid {l : List Dat} {b : Bool} {x : Int} : inS (saidL l b) x ↔ ∃ d,d ∈ l ∧ d.add = b ∧ covD d x:=by
  unfold saidL inS covD
  constructor
  · rintro ⟨s,hs,h1,h2⟩
    obtain ⟨d,hd,rfl⟩:=List.mem_map.1 hs
    obtain ⟨h3,h4⟩:=List.mem_filter.1 hd
    exact ⟨d,h3,by simpa using h4,h1,h2⟩
  · rintro ⟨d,hd,h1,h2,h3⟩
    exact ⟨_,List.mem_map.2 ⟨d,List.mem_filter.2 ⟨hd,by simpa using h1⟩,rfl⟩,h2,h3⟩
theorem both_iff {x : List Dat} (ho : okD x) : (bothL x).length = 0 ↔ ∀ y,¬ (inS (saidL x true) y ∧ inS (saidL x false) y):=by
  obtain ⟨a1,a2⟩:=canS_ok (saidL_ne ho true)
  obtain ⟨b1,b2⟩:=canS_ok (saidL_ne ho false)
  obtain ⟨k1,k2⟩:=and_ok a1 b1
  constructor
  · intro h y hy
    have e : bothL x = []:=List.length_eq_zero_iff.1 h
    have : inS (bothL x) y:=(k2 y).2 ⟨(a2 y).2 hy.1,(b2 y).2 hy.2⟩
    rw [e] at this;exact inS_nil y this
  · intro h
    exact meet_nil_of a1 b1 fun y hy=>h y ⟨(a2 y).1 hy.1,(b2 y).1 hy.2⟩
def tGr (xs : List (List Dat)) : Prop:=(∀ x,x ∈ xs → ∀ d,d ∈ x → ∀ d',d' ∈ x → d.t = d'.t) ∧ xs.Pairwise fun x y=>∀ d,d ∈ x → ∀ d',d' ∈ y → d.t < d'.t
theorem foldT_ok : ∀ (xs : List (List Dat)) (now : List Sp),SetP now → rngS now → tGr xs → okD xs.flatten → rgD xs.flatten →
    match foldT now xs with
    | some sp=>SetP sp ∧ rngS sp ∧ ¬ confP xs.flatten ∧ ∀ y,inS sp y ↔ (holdP xs.flatten y ∨ (inS now y ∧ ∀ d,d ∈ xs.flatten → ¬ covD d y))
    | none=>confP xs.flatten
  | [],now,hn,hr,_,_,_=>⟨hn,hr,by rintro ⟨d,hd,_⟩;simp at hd,fun y=>⟨fun h=>.inr ⟨h,fun d hd=>by simp at hd⟩,fun h=>h.elim (fun ⟨d,hd,_⟩=>by simp at hd) (fun h=>h.1)⟩⟩
  | x :: xs, now, hn,hr,hg,ho,hrg=>by
    have hox : okD x:=fun d hd=>ho d (by simp [hd])
    have hrx : rgD x:=fun d hd=>hrg d (by simp [hd])
    have hor : okD xs.flatten:=fun d hd=>ho d (by rw [List.flatten_cons];exact List.mem_append_right _ hd)
    have hrr : rgD xs.flatten:=fun d hd=>hrg d (by rw [List.flatten_cons];exact List.mem_append_right _ hd)
    obtain ⟨g1,g2⟩:=hg
    have hgr : tGr xs:=⟨fun y hy=>g1 y (List.mem_cons_of_mem _ hy),(List.pairwise_cons.1 g2).2⟩
    have hx1:=g1 x List.mem_cons_self
    have hlt : ∀ d,d ∈ x → ∀ d',d' ∈ xs.flatten → d.t < d'.t:=fun d hd d' hd'=>by
      obtain ⟨y,hy,hy2⟩:=List.mem_flatten.1 hd'
      exact (List.pairwise_cons.1 g2).1 y hy d hd d' hy2
    have hmem : ∀ d,d ∈ (x :: xs).flatten ↔ d ∈ x ∨ d ∈ xs.flatten:=fun d=>by rw [List.flatten_cons,List.mem_append]
    rw [foldT_cons]
    by_cases hb : (bothL x).length = 0
    · rw [if_pos hb]
      have hno:=(both_iff hox).1 hb
      obtain ⟨t1,t2,t3⟩:=tn_ok hn hr hox hrx
      have ih:=foldT_ok xs (tnL now x) t1 t2 hgr hor hrr
      cases hf : foldT (tnL now x) xs with
      | none =>
        rw [hf] at ih
        obtain ⟨d,hd,d',hd',h⟩:=ih
        exact ⟨d,(hmem d).2 (.inr hd),d',(hmem d').2 (.inr hd'),h⟩
      | some sp =>
        rw [hf] at ih
        obtain ⟨i1,i2,i3,i4⟩:=ih
        refine ⟨i1,i2,?_,fun y=>?_⟩
        · rintro ⟨d,hd,d',hd',e,h1,h2,z,hz1,hz2⟩
          rcases (hmem d).1 hd with k|k <;> rcases (hmem d').1 hd' with k'|k'
          · exact hno z ⟨inSaid.2 ⟨d,k,h1,hz1⟩,inSaid.2 ⟨d',k',h2,hz2⟩⟩
          · have:=hlt d k d' k';omega
          · have:=hlt d' k' d k;omega
          · exact i3 ⟨d,k,d',k',e,h1,h2,z,hz1,hz2⟩
        · rw [i4, t3]
          constructor
          · rintro (⟨d,hd,h1,h2,h3⟩ | ⟨⟨h1,h2⟩,h3⟩)
            · refine .inl ⟨d,(hmem d).2 (.inr hd),h1,h2,fun d' hd' hc=>?_⟩
              rcases (hmem d').1 hd' with k|k
              · have:=hlt d' k d hd;omega
              · exact h3 d' k hc
            · by_cases hi : inS (saidL x true) y
              · obtain ⟨d,hd,k1,k2⟩:=inSaid.1 hi
                refine .inl ⟨d,(hmem d).2 (.inl hd),k1,k2,fun d' hd' hc=>?_⟩
                rcases (hmem d').1 hd' with k|k
                · exact Int.le_of_eq (hx1 d' k d hd)
                · exact absurd hc (h3 d' k)
              · refine .inr ⟨h1.resolve_right hi,fun d hd hc=>?_⟩
                rcases (hmem d).1 hd with k|k
                · cases ha : d.add with
                  | true=>exact hi (inSaid.2 ⟨d,k,ha,hc⟩)
                  | false=>exact h2 (inSaid.2 ⟨d,k,ha,hc⟩)
                · exact h3 d k hc
          · rintro (⟨d,hd,h1,h2,h3⟩ | ⟨h1,h2⟩)
            · rcases (hmem d).1 hd with k|k
              · refine .inr ⟨⟨.inr (inSaid.2 ⟨d,k,h1,h2⟩),fun hout=>hno y ⟨inSaid.2 ⟨d,k,h1,h2⟩,hout⟩⟩,fun d' hd' hc=>?_⟩
                have e1:=h3 d' ((hmem d').2 (.inr hd')) hc
                have e2:=hlt d k d' hd'
                omega
              · exact .inl ⟨d,k,h1,h2,fun d' hd' hc=>h3 d' ((hmem d').2 (.inr hd')) hc⟩
            · refine .inr ⟨⟨.inl h1,fun hout=>?_⟩,fun d hd hc=>h2 d ((hmem d).2 (.inr hd)) hc⟩
              obtain ⟨d,hd,_,hc⟩:=inSaid.1 hout
              exact h2 d ((hmem d).2 (.inl hd)) hc
    · rw [if_neg hb]
      have h1 : ¬ ∀ y,¬ (inS (saidL x true) y ∧ inS (saidL x false) y):=fun h=>hb ((both_iff hox).2 h)
      obtain ⟨y,hy⟩:=Classical.not_forall.1 h1
      obtain ⟨hy1,hy2⟩:=Classical.not_not.1 hy
      obtain ⟨d,hd,k1,k2⟩:=inSaid.1 hy1
      obtain ⟨d',hd',k3,k4⟩:=inSaid.1 hy2
      exact ⟨d,(hmem d).2 (.inl hd),d',(hmem d').2 (.inl hd'),hx1 d hd d' hd',k1,k3,y,k2,k4⟩
theorem grpL_tGr : ∀ (n : Nat) (g : List Dat),g.length ≤ n → (∀ d,d ∈ g → ∀ d',d' ∈ g → alP d d') → g.Pairwise (fun a b=>a.t ≤ b.t) → tGr (grpL (grP false) g)
  | _,[],_,_,_=>by rw [grpL_nil];exact ⟨fun x hx=>by simp at hx,List.Pairwise.nil⟩
  | 0,_ :: _,h,_,_=>by simp at h
  | n + 1,d :: l,hn,hal,hs=>by
    have hd:=List.dropWhile_sublist (p:=tst (grP false) d) (l:=l)
    have ht:=List.takeWhile_sublist (p:=tst (grP false) d) (l:=l)
    obtain ⟨s1,s2⟩:=List.pairwise_cons.1 hs
    obtain ⟨i1,i2⟩:=grpL_tGr n (l.dropWhile (tst (grP false) d)) (by have:=hd.length_le;simp at hn;omega) (fun a ha b hb=>hal a (List.mem_cons_of_mem _ (hd.subset ha)) b (List.mem_cons_of_mem _ (hd.subset hb))) (s2.sublist hd)
    rw [grpL_cons]
    have hx : ∀ a,a ∈ d :: l.takeWhile (tst (grP false) d) → a.t = d.t:=fun a ha=>by
      rcases List.mem_cons.1 ha with rfl|ha
      · rfl
      · have:=tst_t.1 (mem_tw l ha)
        rcases this.2 with h|h
        · cases h
        · exact h.symm
    have hgt : ∀ b,b ∈ l.dropWhile (tst (grP false) d) → d.t < b.t:=fun b hb=>by
      cases hdw : l.dropWhile (tst (grP false) d) with
      | nil=>rw [hdw] at hb;simp at hb
      | cons c r =>
        have hc : ¬ grP false d c:=by
          have:=List.head?_dropWhile_not (tst (grP false) d) l
          rw [hdw] at this
          simp at this
          exact tst_f.1 this
        have hcl : c ∈ l:=hd.subset (by rw [hdw];simp)
        have hct : d.t < c.t:=by
          have h1:=s1 c hcl
          rcases Int.lt_or_eq_of_le h1 with h|h
          · exact h
          · exact absurd ⟨hal d List.mem_cons_self c (List.mem_cons_of_mem _ hcl),.inr h⟩ hc
        rw [hdw] at hb
        rcases List.mem_cons.1 hb with rfl|hb
        · exact hct
        · have:=s2.sublist hd
          rw [hdw] at this
          have:=(List.pairwise_cons.1 this).1 b hb
          omega
    refine ⟨fun x hx0=>?_,List.pairwise_cons.2 ⟨fun y hy a ha b hb=>?_,i2⟩⟩
    · rcases List.mem_cons.1 hx0 with rfl|hx0
      · exact fun a ha b hb=>(hx a ha).trans (hx b hb).symm
      · exact i1 x hx0
    · rw [hx a ha]
      refine hgt b ?_
      have:=(grpL_flat' (grP false) _ (l.dropWhile (tst (grP false) d)) (Nat.le_refl _)).1
      rw [← this]
      exact List.mem_flatten.2 ⟨y,hy,hb⟩
def keyF (d : Dat) : Fac:=⟨d.e,d.a,d.v,[]⟩
theorem alP_iff {a b : Dat} : alP a b ↔ cmpF (keyF a) (keyF b) = 0:=by rw [cmpF_z];exact Iff.rfl
theorem alP.sym {a b : Dat} (h : alP a b) : alP b a:=⟨h.1.symm,h.2.1.symm,h.2.2.symm⟩
theorem alP.trans {a b c : Dat} (h : alP a b) (h' : alP b c) : alP a c:=⟨h.1.trans h'.1,h.2.1.trans h'.2.1,h.2.2.trans h'.2.2⟩
theorem cmpI_neg {a b : Int} (h : cmpI a b < 0) : a < b:=by
  unfold cmpI at h
  split at h
  · assumption
  · split at h <;> omega
def stP (a b : Dat) : Prop:=cmpF (keyF a) (keyF b) ≤ 0 ∧ (alP a b → a.t ≤ b.t)
theorem stP_of {a b : Dat} (h : cmpD 1 a b < 0) : stP a b:=by
  have e : cmpD 1 a b = if cmpI a.e b.e = 0 then (if cmpI a.a b.a = 0 then (if cmpV a.v b.v = 0 then (if cmpI a.t b.t = 0 then cmpPs [prtN (if a.add then 0 else 1),prtN a.fr,prtN a.to] [prtN (if b.add then 0 else 1),prtN b.fr,prtN b.to] else cmpI a.t b.t) else cmpV a.v b.v) else cmpI a.a b.a) else cmpI a.e b.e:=rfl
  have ek : cmpF (keyF a) (keyF b) = if cmpI a.e b.e = 0 then (if cmpI a.a b.a = 0 then cmpV a.v b.v else cmpI a.a b.a) else cmpI a.e b.e:=cmpF_if (keyF a) (keyF b)
  rw [e] at h
  unfold stP
  rw [ek]
  split at h
  · rename_i h1
    rw [if_pos h1]
    split at h
    · rename_i h2
      rw [if_pos h2]
      split at h
      · rename_i h3
        refine ⟨by omega,fun _=>?_⟩
        split at h
        · rename_i h4
          have:=(cmpI_z _ _).1 h4;omega
        · have:=cmpI_neg h;omega
      · rename_i h3
        refine ⟨by omega,fun k=>?_⟩
        exact absurd ((cmpV_z _ _).2 k.2.2) h3
    · rename_i h2
      rw [if_neg h2]
      exact ⟨by omega,fun k=>absurd ((cmpI_z _ _).2 k.2.1) h2⟩
  · rename_i h1
    rw [if_neg h1]
    exact ⟨by omega,fun k=>absurd ((cmpI_z _ _).2 k.1) h1⟩
def kGr (gs : List (List Dat)) : Prop:=(∀ g,g ∈ gs → 0 < g.length ∧ (∀ d,d ∈ g → ∀ d',d' ∈ g → alP d d') ∧ g.Pairwise fun a b=>a.t ≤ b.t) ∧ gs.Pairwise fun x y=>∀ d,d ∈ x → ∀ d',d' ∈ y → cmpF (keyF d) (keyF d') < 0
theorem grpL_kGr : ∀ (n : Nat) (l : List Dat),l.length ≤ n → l.Pairwise stP → kGr (grpL (grP true) l)
  | _,[],_,_=>by rw [grpL_nil];exact ⟨fun x hx=>by simp at hx,List.Pairwise.nil⟩
  | 0,_ :: _,h,_=>by simp at h
  | n + 1,d :: l,hn,hs=>by
    have hd:=List.dropWhile_sublist (p:=tst (grP true) d) (l:=l)
    have ht:=List.takeWhile_sublist (p:=tst (grP true) d) (l:=l)
    obtain ⟨s1,s2⟩:=List.pairwise_cons.1 hs
    obtain ⟨i1,i2⟩:=grpL_kGr n (l.dropWhile (tst (grP true) d)) (by have:=hd.length_le;simp at hn;omega) (s2.sublist hd)
    rw [grpL_cons]
    have hx : ∀ a,a ∈ d :: l.takeWhile (tst (grP true) d) → alP d a:=fun a ha=>by
      rcases List.mem_cons.1 ha with rfl|ha
      · exact ⟨rfl,rfl,rfl⟩
      · exact (tst_t.1 (mem_tw l ha)).1
    have hgt : ∀ b,b ∈ l.dropWhile (tst (grP true) d) → cmpF (keyF d) (keyF b) < 0:=fun b hb=>by
      cases hdw : l.dropWhile (tst (grP true) d) with
      | nil=>rw [hdw] at hb;simp at hb
      | cons c r =>
        have hc : ¬ grP true d c:=by
          have:=List.head?_dropWhile_not (tst (grP true) d) l
          rw [hdw] at this
          simp at this
          exact tst_f.1 this
        have hcl : c ∈ l:=hd.subset (by rw [hdw];simp)
        have hct : cmpF (keyF d) (keyF c) < 0:=by
          have h1:=(s1 c hcl).1
          rcases Int.lt_or_eq_of_le h1 with h|h
          · exact h
          · exact absurd ⟨alP_iff.2 h,.inl rfl⟩ hc
        rw [hdw] at hb
        rcases List.mem_cons.1 hb with rfl|hb
        · exact hct
        · have:=s2.sublist hd
          rw [hdw] at this
          have:=((List.pairwise_cons.1 this).1 b hb).1
          exact wc_cmpF.lt (by omega) this (.inl hct)
    refine ⟨fun x hx0=>?_,List.pairwise_cons.2 ⟨fun y hy a ha b hb=>?_,i2⟩⟩
    · rcases List.mem_cons.1 hx0 with rfl|hx0
      · have hal : ∀ a,a ∈ d :: l.takeWhile (tst (grP true) d) → ∀ b,b ∈ d :: l.takeWhile (tst (grP true) d) → alP a b:=fun a ha b hb=>(hx a ha).sym.trans (hx b hb)
        refine ⟨by simp,hal,?_⟩
        have hp : (d :: l.takeWhile (tst (grP true) d)).Pairwise stP:=hs.sublist (ht.cons_cons d)
        rw [List.pairwise_iff_getElem] at hp ⊢
        exact fun i j hi hj hij=>(hp i j hi hj hij).2 (hal _ (List.getElem_mem hi) _ (List.getElem_mem hj))
      · exact i1 x hx0
    · have hb' : b ∈ l.dropWhile (tst (grP true) d):=by
        have:=(grpL_flat' (grP true) _ (l.dropWhile (tst (grP true) d)) (Nat.le_refl _)).1
        rw [← this]
        exact List.mem_flatten.2 ⟨y,hy,hb⟩
      have h1:=hgt b hb'
      have h2 : cmpF (keyF a) (keyF d) = 0:=alP_iff.1 (hx a ha).sym
      exact wc_cmpF.lt (by omega) (by omega : cmpF (keyF d) (keyF b) ≤ 0) (.inr h1)
def holdK (S : List Dat) (k : Fac) (y : Int) : Prop:=∃ d,d ∈ S ∧ cmpF (keyF d) k = 0 ∧ d.add = true ∧ covD d y ∧ ∀ d',d' ∈ S → cmpF (keyF d') k = 0 → covD d' y → d'.t ≤ d.t
def confK (S : List Dat) : Prop:=∃ d,d ∈ S ∧ ∃ d',d' ∈ S ∧ alP d d' ∧ d.t = d'.t ∧ d.add = true ∧ d'.add = false ∧ ∃ x,covD d x ∧ covD d' x
theorem cmpF_eq0 {a b c : Fac} (h : cmpF a b = 0) (h' : cmpF b c = 0) : cmpF a c = 0:=by
  rw [cmpF_z] at *
  exact ⟨h.1.trans h'.1,h.2.1.trans h'.2.1,h.2.2.trans h'.2.2⟩
theorem cmpF_sym {a b : Fac} (h : cmpF a b = 0) : cmpF b a = 0:=by
  rw [cmpF_z] at *
  exact ⟨h.1.symm,h.2.1.symm,h.2.2.symm⟩
theorem foldG_ok2 : ∀ (gs : List (List Dat)),kGr gs → okD gs.flatten → rgD gs.flatten →
    match foldG gs with
    | some F=>riseF F ∧ (∀ f,f ∈ F → (∃ d,d ∈ gs.flatten ∧ cmpF f (keyF d) = 0) ∧ SetP f.sp ∧ rngS f.sp ∧ 0 < f.sp.length) ∧ ¬ confK gs.flatten ∧ ∀ k y,(∃ f,f ∈ F ∧ cmpF f k = 0 ∧ inS f.sp y) ↔ holdK gs.flatten k y
    | none=>confK gs.flatten
  | [],_,_,_=>⟨List.Pairwise.nil,fun f hf=>by simp at hf,by rintro ⟨d,hd,_⟩;simp at hd,fun k y=>⟨fun ⟨f,hf,_⟩=>by simp at hf,fun ⟨d,hd,_⟩=>by simp at hd⟩⟩
  | g :: gs,hk,ho,hr=>by
    obtain ⟨k1,k2⟩:=hk
    obtain ⟨g0,g1,g2⟩:=k1 g List.mem_cons_self
    have hmem : ∀ d,d ∈ (g :: gs).flatten ↔ d ∈ g ∨ d ∈ gs.flatten:=fun d=>by rw [List.flatten_cons,List.mem_append]
    have hog : okD g:=fun d hd=>ho d ((hmem d).2 (.inl hd))
    have hrg : rgD g:=fun d hd=>hr d ((hmem d).2 (.inl hd))
    have ih:=foldG_ok2 gs ⟨fun x hx=>k1 x (List.mem_cons_of_mem _ hx),(List.pairwise_cons.1 k2).2⟩ (fun d hd=>ho d ((hmem d).2 (.inr hd))) (fun d hd=>hr d ((hmem d).2 (.inr hd)))
    have hlt : ∀ d,d ∈ g → ∀ d',d' ∈ gs.flatten → cmpF (keyF d) (keyF d') < 0:=fun d hd d' hd'=>by
      obtain ⟨y,hy,hy2⟩:=List.mem_flatten.1 hd'
      exact (List.pairwise_cons.1 k2).1 y hy d hd d' hy2
    have hfl:=(grpL_flat' (grP false) _ g (Nat.le_refl _)).1
    have hT:=foldT_ok (grpL (grP false) g) [] .nil (fun s hs=>by simp at hs) (grpL_tGr _ g (Nat.le_refl _) g1 g2) (by rw [hfl];exact hog) (by rw [hfl];exact hrg)
    rw [hfl] at hT
    simp only [foldG]
    cases hf : foldT [] (grpL (grP false) g) with
    | none =>
      rw [hf] at hT
      obtain ⟨d,hd,d',hd',h⟩:=hT
      exact ⟨d,(hmem d).2 (.inl hd),d',(hmem d').2 (.inl hd'),g1 d hd d' hd',h⟩
    | some sp =>
      rw [hf] at hT
      obtain ⟨t1,t2,t3,t4⟩:=hT
      cases hg : foldG gs with
      | none =>
        rw [hg] at ih
        obtain ⟨d,hd,d',hd',h⟩:=ih
        exact ⟨d,(hmem d).2 (.inr hd),d',(hmem d').2 (.inr hd'),h⟩
      | some F =>
        rw [hg] at ih
        obtain ⟨i1,i2,i3,i4⟩:=ih
        obtain ⟨d0,hd0,hdh⟩ : ∃ d0,d0 ∈ g ∧ g.headD dat0 = d0:=by
          cases g with
          | nil=>simp at g0
          | cons d l=>exact ⟨d,List.mem_cons_self,rfl⟩
        have hkey : ∀ d,d ∈ g → cmpF (keyF d) (keyF d0) = 0:=fun d hd=>alP_iff.1 (g1 d hd d0 hd0)
        simp only [hdh]
        have hno : ¬ confK (g :: gs).flatten:=by
          rintro ⟨d,hd,d',hd',ha,h⟩
          rcases (hmem d).1 hd with q|q <;> rcases (hmem d').1 hd' with q'|q'
          · exact t3 ⟨d,q,d',q',h⟩
          · have:=hlt d q d' q';have:=alP_iff.1 ha;omega
          · have:=hlt d' q' d q;have:=alP_iff.1 ha.sym;omega
          · exact i3 ⟨d,q,d',q',ha,h⟩
        have hhold : ∀ k y,holdK (g :: gs).flatten k y ↔ (cmpF (keyF d0) k = 0 ∧ inS sp y) ∨ holdK gs.flatten k y:=fun k y=>by
          have e4 : inS sp y ↔ holdP g y:=(t4 y).trans ⟨fun h=>h.elim id fun h=>absurd h.1 (inS_nil y),.inl⟩
          rw [e4]
          constructor
          · rintro ⟨d,hd,h1,h2,h3,h4⟩
            rcases (hmem d).1 hd with q|q
            · exact .inl ⟨cmpF_eq0 (cmpF_sym (hkey d q)) h1,d,q,h2,h3,fun d' hd' hc=>h4 d' ((hmem d').2 (.inl hd')) (cmpF_eq0 (cmpF_eq0 (hkey d' hd') (cmpF_sym (hkey d q))) h1) hc⟩
            · exact .inr ⟨d,q,h1,h2,h3,fun d' hd'=>h4 d' ((hmem d').2 (.inr hd'))⟩
          · rintro (⟨hk0,d,hd,h2,h3,h4⟩ | ⟨d,hd,h1,h2,h3,h4⟩)
            · refine ⟨d,(hmem d).2 (.inl hd),cmpF_eq0 (hkey d hd) hk0,h2,h3,fun d' hd' hkd hc=>?_⟩
              rcases (hmem d').1 hd' with q|q
              · exact h4 d' q hc
              · have h5:=hlt d hd d' q
                have h6 : cmpF (keyF d) (keyF d') = 0:=cmpF_eq0 (cmpF_eq0 (hkey d hd) hk0) (cmpF_sym hkd)
                omega
            · refine ⟨d,(hmem d).2 (.inr hd),h1,h2,h3,fun d' hd' hkd hc=>?_⟩
              rcases (hmem d').1 hd' with q|q
              · have h5:=hlt d' q d hd
                have h6 : cmpF (keyF d') (keyF d) = 0:=cmpF_eq0 hkd (cmpF_sym h1)
                omega
              · exact h4 d' q hkd hc
        by_cases hs : sp.length = 0
        · rw [if_pos hs,List.nil_append]
          have e : sp = []:=List.length_eq_zero_iff.1 hs
          refine ⟨i1,fun f hf=>?_,hno,fun k y=>?_⟩
          · obtain ⟨⟨d,hd,h1⟩,h2⟩:=i2 f hf
            exact ⟨⟨d,(hmem d).2 (.inr hd),h1⟩,h2⟩
          · rw [i4,hhold,e]
            exact ⟨.inr,fun h=>h.elim (fun h=>absurd h.2 (inS_nil y)) id⟩
        · rw [if_neg hs]
          refine ⟨?_,fun f hf=>?_,hno,fun k y=>?_⟩
          · refine List.pairwise_cons.2 ⟨fun f hf=>?_,i1⟩
            obtain ⟨⟨d,hd,h1⟩,_⟩:=i2 f hf
            have h5 : cmpF ⟨d0.e,d0.a,d0.v,sp⟩ (keyF d) < 0:=hlt d0 hd0 d hd
            exact wc_cmpF.lt (by omega : cmpF ⟨d0.e,d0.a,d0.v,sp⟩ (keyF d) ≤ 0) (by have:=cmpF_sym h1;omega) (.inl h5)
          · rcases List.mem_cons.1 hf with rfl|hf
            · exact ⟨⟨d0,(hmem d0).2 (.inl hd0),(cmpF_z _ _).2 ⟨rfl,rfl,rfl⟩⟩,t1,t2,Nat.pos_of_ne_zero hs⟩
            · obtain ⟨⟨d,hd,h1⟩,h2⟩:=i2 f hf
              exact ⟨⟨d,(hmem d).2 (.inr hd),h1⟩,h2⟩
          · rw [hhold,← i4]
            constructor
            · rintro ⟨f,hf,h1,h2⟩
              rcases List.mem_cons.1 hf with rfl|hf
              · exact .inl ⟨h1,h2⟩
              · exact .inr ⟨f,hf,h1,h2⟩
            · rintro (⟨h1,h2⟩ | ⟨f,hf,h1,h2⟩)
              · exact ⟨_,List.mem_cons_self,h1,h2⟩
              · exact ⟨f,List.mem_cons_of_mem _ hf,h1,h2⟩
theorem dsort_iff (l : List Dat) (d : Dat) : d ∈ dsortL 1 l ↔ d ∈ l:=by
  unfold dsortL
  rw [if_pos (by decide),sortC_mem,List.mem_filter]
  exact ⟨fun h=>h.1,fun h=>⟨h,by unfold hasB;rw [dP_t];exact .inl (by decide)⟩⟩
theorem dsort_st (l : List Dat) : (dsortL 1 l).Pairwise stP:=by
  unfold dsortL
  rw [if_pos (by decide)]
  exact (sortC_rise (wc_cmpD 1) (cmpD_z 1) _).imp fun h=>stP_of h
theorem find_rise {F : List Fac} (h : riseF F) (k : Fac) (y : Int) : inS (findL F k) y ↔ ∃ f,f ∈ F ∧ cmpF f k = 0 ∧ inS f.sp y:=by
  unfold findL
  cases hf : F.find? fun g=>decide (cmpF g k = 0) with
  | none =>
    have:=List.find?_eq_none.1 hf
    refine ⟨fun h=>absurd h (inS_nil y),fun ⟨f,h1,h2,_⟩=>absurd (this f h1) (by simp [h2])⟩
  | some f0 =>
    have h0:=List.mem_of_find?_eq_some hf
    have hk : cmpF f0 k = 0:=by have:=List.find?_some hf;simpa using this
    refine ⟨fun h=>⟨f0,h0,hk,h⟩,fun ⟨f,h1,h2,h3⟩=>?_⟩
    have e : f = f0:=by
      obtain ⟨i,hi,rfl⟩:=List.getElem_of_mem h1
      obtain ⟨j,hj,rfl⟩:=List.getElem_of_mem h0
      have hp:=List.pairwise_iff_getElem.1 h
      have z:=cmpF_eq0 h2 (cmpF_sym hk)
      rcases Nat.lt_trichotomy i j with q|q|q
      · have:=hp i j hi hj q;omega
      · subst q;rfl
      · have:=hp j i hj hi q
        have:=cmpF_sym z;omega
    rw [← e];exact h3
theorem may_key {f : Fac} {d : Dat} (h : cmpF f (keyF d) = 0) (hd : dmayP d) : dmayP (datF f):=by
  obtain ⟨h1,h2,h3⟩:=(cmpF_z _ _).1 h
  simp only [keyF] at h1 h2 h3
  unfold dmayP datF
  simp only [h1,h2,h3]
  exact ⟨hd.1,hd.2.1,hd.2.2.1,hd.2.2.2.1,hd.2.2.2.2.1,by decide,by decide,by decide⟩
theorem foldR_ok (l : List Dat) (hr : rgD l) : match foldR l with
    | some F=>(∀ d,d ∈ l → dmayP d) ∧ allF F ∧ (∀ f,f ∈ F → rngS f.sp) ∧ ¬ confK l ∧ ∀ k y,inS (findL F k) y ↔ holdK l k y
    | none=>¬ (∀ d,d ∈ l → dmayP d) ∨ confK l:=by
  unfold foldR
  by_cases hm : ∀ d,d ∈ l → dmayP d
  · rw [← dP_T hm,if_pos rfl]
    have hiff:=dsort_iff l
    have hfl:=(grpL_flat' (grP true) _ (dsortL 1 l) (Nat.le_refl _)).1
    have h:=foldG_ok2 (grpL (grP true) (dsortL 1 l)) (grpL_kGr _ _ (Nat.le_refl _) (dsort_st l)) (by rw [hfl];exact fun d hd=>(hm d ((hiff d).1 hd)).2.2.2.2.2.2.2) (by rw [hfl];exact fun d hd=>hr d ((hiff d).1 hd))
    rw [hfl] at h
    have hcf : confK (dsortL 1 l) ↔ confK l:=by
      unfold confK;simp only [hiff]
    have hhk : ∀ k y,holdK (dsortL 1 l) k y ↔ holdK l k y:=fun k y=>by
      unfold holdK;simp only [hiff]
    cases hf : foldG (grpL (grP true) (dsortL 1 l)) with
    | none=>rw [hf] at h;exact .inr (hcf.1 h)
    | some F =>
      rw [hf] at h
      obtain ⟨h1,h2,h3,h4⟩:=h
      refine ⟨hm,fun i hi _=>⟨?_,fun h0=>?_⟩,fun f hf=>(h2 f hf).2.2.1,fun e=>h3 (hcf.2 e),fun k y=>?_⟩
      · obtain ⟨⟨d,hd,k1⟩,k2,_,k4⟩:=h2 _ (List.getElem_mem hi)
        exact ⟨may_key k1 (hm d ((hiff d).1 hd)),k4,k2⟩
      · exact List.pairwise_iff_getElem.1 h1 (i - 1) i (by omega) hi (by omega)
      · rw [find_rise h1,h4,hhk]
  · rw [← dP_F hm,if_neg (by decide)]
    exact .inl hm
theorem fac_key {a b : Fac} (h : cmpF a b = 0) (hs : a.sp = b.sp) : a = b:=by
  obtain ⟨h1,h2,h3⟩:=(cmpF_z a b).1 h
  cases a;cases b;cases h1;cases h2;cases h3;cases hs;rfl
theorem facts_sub {A B : List Fac} (ha : allF A) (hb : allF B) (h : ∀ k y,inS (findL A k) y ↔ inS (findL B k) y) {f : Fac} (hf : f ∈ A) : f ∈ B:=by
  obtain ⟨hm,hl,hp⟩:=may_of ha hf
  have hkk : ∀ k : Fac,cmpF k k = 0:=fun k=>(cmpF_z k k).2 ⟨rfl,rfl,rfl⟩
  obtain ⟨y0,hy0⟩ : ∃ y,inS f.sp y:=by
    have h0:=List.getElem_mem (l:=f.sp) (n:=0) hl
    exact ⟨_,_,h0,Int.le_refl _,hp.1 _ h0⟩
  obtain ⟨g,hg,hgk,_⟩:=(find_rise (allF_rise hb) f y0).1 ((h f y0).1 ((find_rise (allF_rise ha) f y0).2 ⟨f,hf,hkk f,hy0⟩))
  have uniq : ∀ {L : List Fac},allF L → ∀ {a b : Fac},a ∈ L → b ∈ L → cmpF a b = 0 → a = b:=fun {L} hL {a b} h1 h2 h3=>by
    obtain ⟨i,hi,rfl⟩:=List.getElem_of_mem h1
    obtain ⟨j,hj,rfl⟩:=List.getElem_of_mem h2
    have hp:=List.pairwise_iff_getElem.1 (allF_rise hL)
    rcases Nat.lt_trichotomy i j with q|q|q
    · have:=hp i j hi hj q;omega
    · subst q;rfl
    · have:=hp j i hj hi q
      have:=cmpF_sym h3;omega
  have e : f.sp = g.sp:=set_ext hp (may_of hb hg).2.2 fun y=>by
    have e1:=find_rise (allF_rise ha) f y
    have e2:=find_rise (allF_rise hb) f y
    constructor
    · intro hy
      obtain ⟨g',h1,h2,h3⟩:=e2.1 ((h f y).1 (e1.2 ⟨f,hf,hkk f,hy⟩))
      rw [uniq hb h1 hg (cmpF_eq0 h2 (cmpF_sym hgk))] at h3;exact h3
    · intro hy
      obtain ⟨f',h1,h2,h3⟩:=e1.1 ((h f y).2 (e2.2 ⟨g,hg,hgk,hy⟩))
      rw [uniq ha h1 hf h2] at h3;exact h3
  rw [fac_key (cmpF_sym hgk) e];exact hg
theorem riseF_eq : ∀ {a b : List Fac},riseF a → riseF b → (∀ x,x ∈ a ↔ x ∈ b) → a = b:=fun h1 h2 h=>rise_eq wc_cmpF h1 h2 h
theorem facts_ext {A B : List Fac} (ha : allF A) (hb : allF B) (h : ∀ k y,inS (findL A k) y ↔ inS (findL B k) y) : A = B :=
  riseF_eq (allF_rise ha) (allF_rise hb) fun _=>⟨facts_sub ha hb h,facts_sub hb ha fun k y=>(h k y).symm⟩
theorem fold_is {l : List Dat} {F : List Fac} (hr : rgD l) (hm : ∀ d,d ∈ l → dmayP d) (hc : ¬ confK l) (ha : allF F) (hk : ∀ k y,(∃ f,f ∈ F ∧ cmpF f k = 0 ∧ inS f.sp y) ↔ holdK l k y) : foldR l = some F:=by
  have h:=foldR_ok l hr
  cases hF : foldR l with
  | none=>rw [hF] at h;exact absurd h (by rintro (h|h);exact h hm;exact hc h)
  | some G =>
    rw [hF] at h
    congr 1
    refine facts_ext h.2.1 ha fun k y=>?_
    rw [h.2.2.2.2,find_rise (allF_rise ha),hk]
theorem fold_not {l : List Dat} (hr : rgD l) (hc : confK l) : foldR l = none:=by
  have h:=foldR_ok l hr
  cases hF : foldR l with
  | none=>rfl
  | some G=>rw [hF] at h;exact absurd hc h.2.2.2.1
end Go.Proofs
