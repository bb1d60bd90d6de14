/- The plain law of the curve: how many facts hold when. -/
import Derived.Test.YtjojdiefnhbglaaGreatYC1
import Derived.Test.YtjojdiefnhbglaaGreatYF2
import Derived.Test.YtjojdiefnhbglaaGreatYS1
set_option linter.all false
namespace Go.Proofs
open Go.AL Go.Sort
structure Pt where
  at_ : Int
  m : Int
theorem Pt.ext' {a b : Pt} (h1 : a.at_ = b.at_) (h2 : a.m = b.m) : a = b:=by
  cases a;cases b;cases h1;cases h2;rfl
abbrev tMx : Int:=9223372036854775807
def turnS (s : Sp) : List Pt:=⟨s.f,1⟩ :: (if s.t = tMx then [] else [⟨s.t,-1⟩])
def turnsL (l : List Fac) : List Pt:=l.flatMap fun f=>f.sp.flatMap turnS
def sumT (a : Int) : List Pt → Int
  | []=>0
  | p :: l=>(if p.at_ ≤ a then p.m else 0) + sumT a l
theorem sumT_app (a : Int) : ∀ (x y : List Pt),sumT a (x ++ y) = sumT a x + sumT a y
  | [],y=>by simp [sumT]
  | p :: x,y=>by simp only [List.cons_append,sumT,sumT_app a x y];omega
theorem sumT_perm (a : Int) {x y : List Pt} (h : x.Perm y) : sumT a x = sumT a y:=by
  induction h with
  | nil=>rfl
  | cons p _ ih=>simp only [sumT,ih]
  | swap p q l=>simp only [sumT];omega
  | trans _ _ h1 h2=>exact h1.trans h2
theorem sumT_zero {a : Int} : ∀ {l : List Pt},(∀ p,p ∈ l → a < p.at_) → sumT a l = 0
  | [],_=>rfl
  | p :: l,h=>by
    have h1:=h p List.mem_cons_self
    have h2:=sumT_zero (l:=l) fun q hq=>h q (List.mem_cons_of_mem _ hq)
    simp only [sumT];rw [if_neg (by omega),h2];rfl
theorem turnS_gt {l : List Sp} {a : Int} (h : ∀ s,s ∈ l → a < s.f ∧ s.f < s.t) : ∀ p,p ∈ l.flatMap turnS → a < p.at_:=fun p hp=>by
  obtain ⟨s,hs,hp⟩:=List.mem_flatMap.1 hp
  have:=h s hs
  unfold turnS at hp
  rcases List.mem_cons.1 hp with e|e
  · rw [e];exact this.1
  · split at e
    · simp at e
    · rw [List.mem_singleton.1 e];show a < s.t;omega
open Classical in
theorem sumT_set {a : Int} (ha : a < tMx) : ∀ (l : List Sp),SetP l → sumT a (l.flatMap turnS) = if inS l a then 1 else 0
  | [],_=>by rw [if_neg (inS_nil a)];rfl
  | s :: l,h=>by
    obtain ⟨h1,h2,h3⟩:=setP_cons.1 h
    have ih:=sumT_set ha l h3
    rw [List.flatMap_cons,sumT_app]
    by_cases c1 : a < s.f
    · rw [sumT_zero (turnS_gt (l:=l) fun r hr=>⟨by have:=h2 r hr;omega,h3.1 r hr⟩)]
      have e : sumT a (turnS s) = 0:=sumT_zero fun p hp=>turnS_gt (l:=[s]) (a:=a) (fun r hr=>by rw [List.mem_singleton.1 hr];exact ⟨c1,h1⟩) p (by simpa using hp)
      rw [e,if_neg]
      · rfl
      · rw [inS_cons]
        rintro (k | ⟨r,hr,k1,k2⟩)
        · omega
        · have:=h2 r hr;omega
    · by_cases c2 : a < s.t
      · rw [sumT_zero (turnS_gt (l:=l) fun r hr=>⟨by have:=h2 r hr;omega,h3.1 r hr⟩)]
        have e : sumT a (turnS s) = 1:=by
          unfold turnS
          split
          · simp only [sumT];rw [if_pos (by omega)];rfl
          · simp only [sumT];rw [if_pos (by omega),if_neg (by omega)];rfl
        rw [e,if_pos ((inS_cons _ _ _).2 (.inl ⟨by omega,c2⟩))];rfl
      · have e : sumT a (turnS s) = 0:=by
          unfold turnS
          rw [if_neg (by omega)]
          simp only [sumT];rw [if_pos (by omega),if_pos (by omega)];rfl
        rw [e,ih]
        have : inS (s :: l) a ↔ inS l a:=by rw [inS_cons];exact ⟨fun h=>h.elim (fun k=>by omega) id,.inr⟩
        simp only [this];omega
noncomputable def cntL (l : List Fac) (a : Int) : Nat:=(l.filter fun f=>dP (inS f.sp a)).length
theorem sumT_all {a : Int} (ha : a < tMx) : ∀ (l : List Fac),(∀ f,f ∈ l → SetP f.sp) → sumT a (turnsL l) = (cntL l a : Int)
  | [],_=>rfl
  | f :: l,h=>by
    have ih:=sumT_all ha l fun g hg=>h g (List.mem_cons_of_mem _ hg)
    have h1:=sumT_set ha f.sp (h f List.mem_cons_self)
    have e : turnsL (f :: l) = f.sp.flatMap turnS ++ turnsL l:=by unfold turnsL;rw [List.flatMap_cons]
    rw [e,sumT_app,h1,ih]
    unfold cntL
    rw [List.filter_cons]
    by_cases hi : inS f.sp a
    · rw [if_pos hi,if_pos (dP_t.mpr hi),List.length_cons];omega
    · rw [if_neg hi,if_neg (by rw [← dP_F hi];decide)];omega
def lastM (out : List Pt) : Int:=match out.getLast? with
  | none=>0
  | some p=>p.m
def pushP (S : Int → Int) (out : List Pt) (a : Int) : List Pt:=if S a = lastM out then out else out ++ [⟨a,S a⟩]
def curveL (S : Int → Int) (as_ : List Int) : List Pt:=as_.foldl (pushP S) []
theorem lastM_snoc (out : List Pt) (p : Pt) : lastM (out ++ [p]) = p.m:=by simp [lastM]
theorem curve_skip (S : Int → Int) (as_ : List Int) : as_.foldl (fun out a=>if a = tMx then out else pushP S out a) [] = curveL S (as_.filter fun a=>decide (a ≠ tMx)):=by
  have key : ∀ (as_ : List Int) (o : List Pt),as_.foldl (fun out a=>if a = tMx then out else pushP S out a) o = (as_.filter fun a=>decide (a ≠ tMx)).foldl (pushP S) o:=by
    intro as_
    induction as_ with
    | nil=>intro o;rfl
    | cons a l ih =>
      intro o
      rw [List.foldl_cons,List.filter_cons]
      by_cases h : a = tMx
      · rw [if_pos h,if_neg (by simp [h])];exact ih o
      · rw [if_neg h,if_pos (by simp [h]),List.foldl_cons];exact ih _
  exact key as_ []
theorem curve_eq {S S' : Int → Int} {as_ : List Int} (h : ∀ a,a ∈ as_ → S a = S' a) : curveL S as_ = curveL S' as_:=by
  have key : ∀ (as_ : List Int) (o : List Pt),(∀ a,a ∈ as_ → S a = S' a) → as_.foldl (pushP S) o = as_.foldl (pushP S') o:=by
    intro as_
    induction as_ with
    | nil=>intro o _;rfl
    | cons a l ih =>
      intro o hh
      rw [List.foldl_cons,List.foldl_cons]
      have e : pushP S o a = pushP S' o a:=by unfold pushP;rw [hh a List.mem_cons_self]
      rw [e];exact ih _ fun b hb=>hh b (List.mem_cons_of_mem _ hb)
  exact key as_ [] h
def doneL (K : List Int) : Nat → List Int
  | 0=>[]
  | i + 1=>if K[i + 1]? = K[i]? then doneL K i else doneL K i ++ [K[i]?.getD 0]
theorem done_ok {K : List Int} (hs : K.Pairwise (fun a b=>a ≤ b)) : ∀ i,i ≤ K.length → (doneL K i).Pairwise (fun a b=>a < b) ∧ (∀ x,x ∈ doneL K i → ∃ (j : Nat) (h : j < K.length),j < i ∧ K[j] = x ∧ K[j + 1]? ≠ some x) ∧ ∀ (j : Nat) (h : j < K.length),j < i → K[j] ∈ doneL K i ∨ K[i]? = some K[j]
  | 0,_=>⟨List.Pairwise.nil,fun x hx=>by simp [doneL] at hx,fun j h hj=>by omega⟩
  | i + 1,hi=>by
    obtain ⟨h1,h2,h3⟩:=done_ok hs i (by omega)
    have hil : i < K.length:=by omega
    have hmono:=List.pairwise_iff_getElem.1 hs
    simp only [doneL]
    by_cases c : K[i + 1]? = K[i]?
    · rw [if_pos c]
      refine ⟨h1,fun x hx=>?_,fun j h hj=>?_⟩
      · obtain ⟨j,h,k1,k2,k3⟩:=h2 x hx
        exact ⟨j,h,by omega,k2,k3⟩
      · by_cases e : j = i
        · subst e;exact .inr (by rw [c,List.getElem?_eq_getElem hil])
        · rcases h3 j h (by omega) with k|k
          · exact .inl k
          · exact .inr (by rw [c];exact k)
    · rw [if_neg c,List.getElem?_eq_getElem hil,Option.getD_some]
      have hlast : K[i + 1]? ≠ some K[i]:=by rwa [List.getElem?_eq_getElem hil] at c
      refine ⟨List.pairwise_append.2 ⟨h1,List.pairwise_singleton _ _,fun x hx y hy=>?_⟩,fun x hx=>?_,fun j h hj=>.inl ?_⟩
      · rw [List.mem_singleton.1 hy]
        obtain ⟨j,h,k1,k2,k3⟩:=h2 x hx
        have hle:=hmono j i h hil k1
        rcases Int.lt_or_eq_of_le hle with q|q
        · omega
        · exfalso
          apply k3
          have hj1 : j + 1 ≤ i:=k1
          rcases Nat.lt_or_eq_of_le hj1 with r|r
          · have a1:=hmono j (j + 1) h (by omega) (by omega)
            have a2:=hmono (j + 1) i (by omega) hil r
            rw [List.getElem?_eq_getElem (by omega)]
            congr 1;omega
          · subst r
            rw [List.getElem?_eq_getElem hil];congr 1;omega
      · rcases List.mem_append.1 hx with k|k
        · obtain ⟨j,h,k1,k2,k3⟩:=h2 x k
          exact ⟨j,h,by omega,k2,k3⟩
        · rw [List.mem_singleton.1 k]
          exact ⟨i,hil,by omega,rfl,hlast⟩
      · by_cases e : j = i
        · subst e;simp
        · rcases h3 j h (by omega) with k|k
          · exact List.mem_append_left _ k
          · rw [List.getElem?_eq_getElem hil] at k
            exact List.mem_append_right _ (by simp at k ⊢;exact k.symm)
theorem done_end {K : List Int} (hs : K.Pairwise (fun a b=>a ≤ b)) : (doneL K K.length).Pairwise (fun a b=>a < b) ∧ ∀ x,x ∈ doneL K K.length ↔ x ∈ K:=by
  obtain ⟨h1,h2,h3⟩:=done_ok hs K.length (Nat.le_refl _)
  refine ⟨h1,fun x=>⟨fun hx=>?_,fun hx=>?_⟩⟩
  · obtain ⟨j,h,_,k,_⟩:=h2 x hx
    rw [← k];exact List.getElem_mem _
  · obtain ⟨j,h,k⟩:=List.getElem_of_mem hx
    rcases h3 j h h with q|q
    · rw [← k];exact q
    · simp at q
def atsS (s : Sp) : List Int:=[s.f,s.t]
def atsL (l : List Fac) : List Int:=l.flatMap fun f=>f.sp.flatMap atsS
theorem rise_int {a b : List Int} (ha : a.Pairwise (fun x y=>x < y)) (hb : b.Pairwise (fun x y=>x < y)) (h : ∀ x,x ∈ a ↔ x ∈ b) : a = b:=by
  have r : ∀ {l : List Int},l.Pairwise (fun x y=>x < y) → Rise cmpI l:=fun h=>h.imp fun {x y} k=>by unfold cmpI;rw [if_pos k];decide
  have w : WC cmpI:=⟨fun x y=>by unfold cmpI;constructor <;> intro h <;> (repeat' split at h) <;> (repeat' split) <;> omega,fun x y z=>by unfold cmpI;intro h1 h2;(repeat' split at h1) <;> (repeat' split at h2) <;> (repeat' split) <;> omega⟩
  exact rise_eq w (r ha) (r hb) h
theorem curve_ats {l : List Fac} {ms : List Pt} {as_ : List Int} (hp : ms.Perm (turnsL l)) (hs : ms.Pairwise (fun a b=>a.at_ ≤ b.at_)) (hset : ∀ f,f ∈ l → SetP f.sp ∧ ∀ s,s ∈ f.sp → s.t ≤ tMx) (hr : as_.Pairwise (fun x y=>x < y)) (hm : ∀ x,x ∈ as_ ↔ x ∈ atsL l) :
    doneL (ms.map Pt.at_) ms.length = as_.filter fun a=>decide (a ≠ tMx):=by
  have hK : (ms.map Pt.at_).Pairwise (fun a b=>a ≤ b):=List.pairwise_map.2 hs
  obtain ⟨k1,k2⟩:=done_end hK
  rw [List.length_map] at k1 k2
  refine rise_int k1 (hr.sublist List.filter_sublist) fun x=>?_
  rw [k2,List.mem_filter,hm,decide_eq_true_eq]
  constructor
  · intro hx
    obtain ⟨p,hp1,rfl⟩:=List.mem_map.1 hx
    have:=(hp.mem_iff (a:=p)).1 hp1
    obtain ⟨f,hf,h2⟩:=List.mem_flatMap.1 this
    obtain ⟨s,hs1,h3⟩:=List.mem_flatMap.1 h2
    have hne:=(hset f hf).1.1 s hs1
    have hle:=(hset f hf).2 s hs1
    unfold turnS at h3
    rcases List.mem_cons.1 h3 with e|e
    · rw [e]
      exact ⟨List.mem_flatMap.2 ⟨f,hf,List.mem_flatMap.2 ⟨s,hs1,by simp [atsS]⟩⟩,by show s.f ≠ _;omega⟩
    · split at e
      · simp at e
      · rename_i ht
        rw [List.mem_singleton.1 e]
        exact ⟨List.mem_flatMap.2 ⟨f,hf,List.mem_flatMap.2 ⟨s,hs1,by simp [atsS]⟩⟩,ht⟩
  · rintro ⟨hx,hne⟩
    obtain ⟨f,hf,h2⟩:=List.mem_flatMap.1 hx
    obtain ⟨s,hs1,h3⟩:=List.mem_flatMap.1 h2
    have hmem : ∀ p,p ∈ turnS s → p ∈ ms:=fun p hp1=>(hp.mem_iff (a:=p)).2 (List.mem_flatMap.2 ⟨f,hf,List.mem_flatMap.2 ⟨s,hs1,hp1⟩⟩)
    simp only [atsS,List.mem_cons,List.not_mem_nil,or_false] at h3
    rcases h3 with rfl|rfl
    · exact List.mem_map.2 ⟨⟨s.f,1⟩,hmem _ (by unfold turnS;simp),rfl⟩
    · exact List.mem_map.2 ⟨⟨s.t,-1⟩,hmem _ (by unfold turnS;rw [if_neg hne];simp),rfl⟩
def sumM : List Pt → Int
  | []=>0
  | p :: l=>p.m + sumM l
theorem sumM_app : ∀ (x y : List Pt),sumM (x ++ y) = sumM x + sumM y
  | [],y=>by simp [sumM]
  | p :: x,y=>by simp only [List.cons_append,sumM,sumM_app x y];omega
theorem sumM_take {ms : List Pt} {i : Nat} (h : i < ms.length) : sumM (ms.take (i + 1)) = sumM (ms.take i) + ms[i].m:=by
  rw [List.take_succ_eq_append_getElem h,sumM_app];simp [sumM]
theorem sumM_T {ms : List Pt} (hs : ms.Pairwise (fun a b=>a.at_ ≤ b.at_)) {i : Nat} (h : i < ms.length) (hn : ∀ h2 : i + 1 < ms.length,ms[i + 1].at_ ≠ ms[i].at_) : sumM (ms.take (i + 1)) = sumT ms[i].at_ ms:=by
  have hmono:=List.pairwise_iff_getElem.1 hs
  have e : sumT ms[i].at_ ms = sumT ms[i].at_ (ms.take (i + 1)) + sumT ms[i].at_ (ms.drop (i + 1)):=by rw [← sumT_app,List.take_append_drop]
  have h2 : sumT ms[i].at_ (ms.drop (i + 1)) = 0:=by
    refine sumT_zero fun p hp=>?_
    obtain ⟨j,hj,rfl⟩:=List.getElem_of_mem hp
    rw [List.getElem_drop]
    simp only [List.length_drop] at hj
    have a1:=hmono i (i + 1) h (by omega) (by omega)
    have a2:=hn (by omega)
    rcases Nat.eq_zero_or_pos j with q|q
    · subst q;simp only [Nat.add_zero];omega
    · have a3:=hmono (i + 1) (i + 1 + j) (by omega) (by omega) (by omega)
      omega
  have h1 : ∀ (l : List Pt),(∀ p,p ∈ l → p.at_ ≤ ms[i].at_) → sumT ms[i].at_ l = sumM l:=by
    intro l
    induction l with
    | nil=>intro _;rfl
    | cons p l ih =>
      intro hh
      simp only [sumT,sumM]
      rw [if_pos (hh p List.mem_cons_self),ih fun q hq=>hh q (List.mem_cons_of_mem _ hq)]
  rw [e,h2,h1 _ fun p hp=>?_]
  · omega
  · obtain ⟨j,hj,rfl⟩:=List.getElem_of_mem hp
    rw [List.getElem_take]
    simp only [List.length_take] at hj
    rcases Nat.lt_or_eq_of_le (show j ≤ i by omega) with q|q
    · exact hmono j i (by omega) h q
    · subst q;exact Int.le_refl _
theorem sumM_abs {ms : List Pt} (h : ∀ p,p ∈ ms → -1 ≤ p.m ∧ p.m ≤ 1) : -(ms.length : Int) ≤ sumM ms ∧ sumM ms ≤ ms.length:=by
  induction ms with
  | nil=>simp [sumM]
  | cons p l ih =>
    have h1:=h p List.mem_cons_self
    have h2:=ih fun q hq=>h q (List.mem_cons_of_mem _ hq)
    simp only [sumM,List.length_cons];omega
end Go.Proofs

namespace Go.Proofs
open Go.AL Go.Sort
attribute [local irreducible] Go.AL.W Go.AL.WL Go.AL.WD Go.AL.POp Go.AL.PPOp Go.AL.POpS Go.AL.PC Go.AL.AC Go.AL.YW Go.AL.Ret Go.AL.Le Go.AL.thn Go.AL.inBlk Go.AL.scp
abbrev ptC (p : Pt) : List AV:=[.sc (.int .i64 p.at_),.sc (.int .i64 p.m)]
abbrev slP (l : List Pt) : AV:=.sl none 2 (l.map ptC)
theorem wcI : WC cmpI:=⟨fun x y=>by unfold cmpI;constructor <;> intro h <;> (repeat' split at h) <;> (repeat' split) <;> omega,fun x y z=>by unfold cmpI;intro h1 h2;(repeat' split at h1) <;> (repeat' split at h2) <;> (repeat' split) <;> omega⟩
theorem zzI (x y : Int) (h : cmpI x y = 0) : x = y:=by unfold cmpI at h;(repeat' split at h) <;> omega
theorem ltI {x y : Int} : cmpI x y < 0 ↔ x < y:=by unfold cmpI;constructor <;> intro h <;> (repeat' split at h) <;> (repeat' split) <;> omega
theorem insI_rise : ∀ (l : List Int),(insL cmpI l).Pairwise (fun a b=>a < b):=fun l=>by
  unfold insL
  rw [fold_sortC wcI zzI]
  exact (sortC_rise wcI zzI l).imp fun h=>ltI.1 h
theorem insI_mem (l : List Int) (x : Int) : x ∈ insL cmpI l ↔ x ∈ l:=by
  unfold insL
  rw [fold_sortC wcI zzI,sortC_mem]
set_option maxHeartbeats 16000000 in
theorem rnumbers_pc [GlobF Tryz.prog] (l : List Int) (hl : l.length < 8796093022208) : PC Tryz.prog 65 [slI l] (slI (insL cmpI l)):=by
  refine PC.of_body Tryz.func65 Tryz.ntmps65 rfl rfl rfl ?_
  repeat' first
 | (apply p1 (hd:=rfl);case hop=>first|(apply D_assign;rfl))
 | refine W_seq ?_
 | refine W_region ?_
 | refine WL_nil ?_
 | refine tn ?_
 | (refine W_block ?_)
  refine W_adopt 3 1 2 rfl ?_
  refine W_ren (rg':=[(0,slI l),(3,.sl none 1 (([] : List Int).map iC)),(4,.sc (.int .i64 0))]) (h':=[]) [] ⟨by decide,fun r hr=>absurd hr (Nat.not_lt_zero r),fun r hr=>(by cases hr),⟨⟨_,rfl,.pur⟩,⟨_,rfl,.slN⟩,⟨_,rfl,.pur⟩,trivial⟩,trivial⟩ ?_
  refine W_loopR (X:=Nat) (fun i=>[(0,slI l),(3,slI (insL cmpI (l.take i))),(4,.sc (.int .i64 (i : Int)))]) (fun _=>[])
    (fun i=>i ≤ l.length) (fun i=>l.length - i) 0 (Nat.zero_le _) ⟨rfl,rfl,rfl,trivial⟩ rfl ?_
  intro i hi
  have hlen:=insL_len cmpI l i hi
  have hr:=insI_rise (l.take i)
  by_cases hil : i < l.length
  rotate_left 1
  · have e : i = l.length:=by omega
    subst e
    rw [List.take_length]
    generalize insL cmpI l = O at *
    repeat' first
 | (apply p1 (hd:=rfl);case hop=>first|(apply D_move;rfl)|(apply D_assign;rfl)|(apply D_int;rfl;rfl;rfl)|(apply D_lenM;rfl))
 | refine W_seq ?_
 | refine W_region ?_
 | (refine idC ?_;refine cs rfl (fun _=>?_) (fun _=>?_))
 | refine WL_nil ?_
 | refine tn ?_
 | refine te ?_
 | (refine idB ?_;refine bh rfl ?_)
 | refine W_skip ?_
 | refine W_block ?_
 | refine W_exit ?_
 | refine W_ret ?_
 | (refine idR ?_;refine ret1 rfl rfl rfl ?_)
    all_goals first
      | (exfalso;omega)
      | exact Le.of_eq rfl
      | rfl
      | skip
  have hsn:=insL_snoc cmpI l i hil
  generalize insL cmpI (l.take i) = O at *
  generalize hx : l[i]'hil = x at *
  have hmono:=List.pairwise_iff_getElem.1 hr
  repeat' first
 | (apply p1 (hd:=rfl);case hop=>first|(apply D_move;rfl)|(apply D_assign;rfl)|(apply D_int;rfl;rfl;rfl)|(apply D_lenM;rfl))
 | refine W_seq ?_
 | refine W_region ?_
 | (refine idC ?_;refine cs rfl (fun _=>?_) (fun _=>?_))
 | refine WL_nil ?_
 | refine tn ?_
 | refine te ?_
 | (refine idB ?_;refine bh rfl ?_)
 | refine W_skip ?_
 | refine W_block ?_
 | refine W_exit ?_
 | refine W_ret ?_
 | (refine idR ?_;refine ret1 rfl rfl rfl ?_)
  all_goals first
    | (exfalso;omega)
    | skip
  refine W_loopL (X:=Nat × Nat × Bool) (fun c=>[(0,slI l),(3,slI O),(4,.sc (.int .i64 (i : Int))),(5,.sc (.int .i64 (c.2.1 : Int))),(6,.sc (.bool c.2.2)),(7,.sc (.int .i64 (c.1 : Int)))]) (fun _=>[])
    (fun c=>c.1 ≤ O.length ∧ c.2.1 ≤ c.1 ∧ (∀ (j : Nat) (h : j < O.length),j < c.2.1 → O[j] < x) ∧ (∀ (j : Nat) (h : j < O.length),c.2.1 ≤ j → j < c.1 → x ≤ O[j]) ∧ (c.2.2 = true ↔ ∃ (j : Nat) (h : j < O.length),j < c.1 ∧ O[j] = x)) (fun c=>O.length - c.1) (0,0,false)
    ⟨Nat.zero_le _,Nat.le_refl _,fun j h hj=>absurd hj (Nat.not_lt_zero j),fun j h h1 hj=>absurd hj (Nat.not_lt_zero j),⟨fun h=>absurd h (by decide),fun ⟨j,h,hj,_⟩=>absurd hj (Nat.not_lt_zero j)⟩⟩ ⟨rfl,rfl,rfl,rfl,rfl,rfl,trivial⟩ rfl ?_
  rintro ⟨k,n,met⟩ ⟨hk,hn,hz1,hz2,hm⟩
  dsimp only at hk hn hz1 hz2 hm
  dsimp only
  by_cases hkl : k < O.length
  · have hmet : (if met = true then true else iEq (O[k]'hkl) (l[i]'hil)) = true ↔ ∃ (j : Nat) (h : j < O.length),j < k + 1 ∧ O[j] = x:=by
      constructor
      · intro h
        by_cases c : met = true
        · obtain ⟨j,h1,h2,h3⟩:=hm.1 c
          exact ⟨j,h1,by omega,h3⟩
        · rw [if_neg c] at h
          exact ⟨k,hkl,by omega,(iEq_t _ _).mp h |>.trans hx⟩
      · rintro ⟨j,h1,h2,h3⟩
        by_cases c : met = true
        · rw [if_pos c]
        · rw [if_neg c]
          by_cases e : j = k
          · subst e;exact (iEq_t _ _).mpr (h3.trans hx.symm)
          · exact absurd (hm.2 ⟨j,h1,by omega,h3⟩) c
    have hlt : O[k]'hkl < l[i]'hil → (∀ (j : Nat) (h : j < O.length),j < k + 1 → O[j] < x) ∧ ∀ (j : Nat) (h : j < O.length),k + 1 ≤ j → j < k + 1 → x ≤ O[j]:=fun h=>⟨fun j h1 h2=>by
      by_cases e : j = k
      · subst e;omega
      · have:=hmono j k h1 hkl (by omega);omega,fun j h1 h2 h3=>by omega⟩
    have hge : l[i]'hil ≤ O[k]'hkl → ∀ (j : Nat) (h : j < O.length),n ≤ j → j < k + 1 → x ≤ O[j]:=fun h j h1 h2 h3=>by
      by_cases e : j = k
      · subst e;omega
      · exact hz2 j h1 h2 (by omega)
    cases met
    all_goals
      repeat' first
 | (apply p1 (hd:=rfl);case hop=>first|(apply D_move;rfl)|(apply D_assign;rfl)|(apply D_int;rfl;rfl;rfl)|(apply D_lenM;rfl)|(apply D_slVhM;rfl;rfl;all_goals first|omega|((repeat rw [w64 _ (by omega) (by omega)]);omega)|decide))
 | refine W_seq ?_
 | refine W_region ?_
 | (refine idC ?_;first|refine c1 rfl ?_|refine c0 rfl ?_|refine cs rfl (fun _=>?_) (fun _=>?_))
 | refine WL_nil ?_
 | refine tn ?_
 | refine bn ?_
 | refine te ?_
 | (refine idB ?_;refine bh rfl ?_)
 | refine W_skip ?_
 | refine W_block ?_
 | refine W_exit ?_
 | (refine idW ?_;refine W_draw0 rfl ?_)
 | (apply d1 (hd:=rfl);case hop=>first|(apply D_move;rfl)|(apply D_assign;rfl)|(apply D_load1;rfl)|(apply D_pickT;rfl;rfl)|(apply D_pickF;rfl;rfl)|(apply D_int;rfl;rfl;rfl)|(apply D_idxAn;rfl;rfl;(first|omega|(simp;done))))
 | (refine idDg ?_;first|refine dg0f rfl rfl rfl ?_|refine dgr rfl rfl ?_)
 | (refine WD_nil (by first|decide +kernel|kernel_rfl|rfl) ?_)
    all_goals first
      | (exfalso;omega)
      | contradiction
      | exact ⟨rfl,(k + 1,k + 1,iEq (O[k]'hkl) (l[i]'hil)),⟨by show k + 1 ≤ _;omega,Nat.le_refl _,(hlt (by assumption)).1,(hlt (by assumption)).2,hmet⟩,by show O.length - (k + 1) < O.length - k;omega,⟨rfl,rfl,rfl,ieq (wsucc k (by omega)),rfl,ieq (wsucc k (by omega)),trivial⟩,rfl⟩
      | exact ⟨rfl,(k + 1,k + 1,true),⟨by show k + 1 ≤ _;omega,Nat.le_refl _,(hlt (by assumption)).1,(hlt (by assumption)).2,hmet⟩,by show O.length - (k + 1) < O.length - k;omega,⟨rfl,rfl,rfl,ieq (wsucc k (by omega)),rfl,ieq (wsucc k (by omega)),trivial⟩,rfl⟩
      | exact ⟨rfl,(k + 1,n,iEq (O[k]'hkl) (l[i]'hil)),⟨by show k + 1 ≤ _;omega,by show n ≤ k + 1;omega,hz1,hge (by assumption),hmet⟩,by show O.length - (k + 1) < O.length - k;omega,⟨rfl,rfl,rfl,rfl,rfl,ieq (wsucc k (by omega)),trivial⟩,rfl⟩
      | exact ⟨rfl,(k + 1,n,true),⟨by show k + 1 ≤ _;omega,by show n ≤ k + 1;omega,hz1,hge (by assumption),hmet⟩,by show O.length - (k + 1) < O.length - k;omega,⟨rfl,rfl,rfl,rfl,rfl,ieq (wsucc k (by omega)),trivial⟩,rfl⟩
      | skip
  · have ek : k = O.length:=by omega
    subst ek
    have hat:=insC_at (c:=cmpI) x n O hn (fun j h hj=>ltI.2 (hz1 j h hj))
    cases met
    · have hnot : ∀ (j : Nat) (h : j < O.length),O[j] ≠ x:=fun j h e=>by have:=hm.2 ⟨j,h,h,e⟩;cases this
      have e2 : (insC cmpI x O).map iC = [] ++ (O.take (n : Int).toNat).map iC ++ [iC (l[i]'hil)] ++ (O.drop (n : Int).toNat).map iC:=by
        rw [hx]
        by_cases hnl : n < O.length
        · have h1:=hz2 n hnl (Nat.le_refl _) hnl
          have h2:=hnot n hnl
          rw [(hat.1 hnl (fun h=>by have:=ltI.1 h;omega)).2 (fun h=>h2 (zzI _ _ h))];simp
        · rw [hat.2 (by omega)]
          have e : n = O.length:=by omega
          rw [e];simp
      repeat' first
 | (refine W_adopt 8 1 2 rfl ?_)
 | (apply p1 (hd:=rfl);case hop=>first|(apply D_move;rfl)|(apply D_assign;rfl)|(apply D_load1;rfl)|(apply D_int;rfl;rfl;rfl)|(apply D_lenM;rfl)|(apply D_idxAn;rfl;rfl;(first|omega|(simp;done)))|(apply D_lit;rfl;rfl;rfl;rfl)|(apply D_slVhM;rfl;rfl;all_goals first|omega|((repeat rw [w64 _ (by omega) (by omega)]);omega)|decide)|(apply D_slVlM;rfl;rfl;all_goals first|omega|((repeat rw [w64 _ (by omega) (by omega)]);omega)|decide))
 | refine W_seq ?_
 | refine W_region ?_
 | (refine idC ?_;first|refine c0 rfl ?_|refine cs rfl (fun _=>?_) (fun _=>?_))
 | refine WL_nil ?_
 | refine tn ?_
 | refine bn ?_
 | refine te ?_
 | (refine idB ?_;refine bh rfl ?_)
 | refine W_skip ?_
 | refine W_block ?_
 | refine W_exit ?_
 | (refine idAp ?_;refine m_app rfl rfl (by first|rfl|assumption|exact get_set (by assumption)|exact get_set (get_set (by assumption))|exact get_set (get_set (get_set (by assumption)))|((repeat first|assumption|exact get_last|(refine get_last2 ?_;focus (simp;done))|apply get_set|apply get_app|(apply get_ne;focus omega));done)) ?_ rfl rfl ?_ ?_ rfl ?_;(first|rfl|focus (simp only [List.length_map,List.length_append,List.length_cons,List.length_nil,List.length_take,List.length_drop];omega)|focus (simp;done)|focus (simp;omega));(first|focus (simp only [List.length_map,List.length_append,List.length_cons,List.length_nil,List.length_take,List.length_drop];omega)|focus (simp;done)|focus (simp;omega));(first|focus (simp only [List.length_map,List.length_append,List.length_cons,List.length_nil,List.length_take,List.length_drop];omega)|focus (simp;done)|focus (simp;omega)))
 | (refine idW ?_;refine W_draw0 rfl ?_)
 | (apply d1 (hd:=rfl);case hop=>first|(apply D_move;rfl)|(apply D_assign;rfl)|(apply D_load1;rfl)|(apply D_pickF;rfl;rfl)|(apply D_int;rfl;rfl;rfl)|(apply D_idxAn;rfl;rfl;(first|omega|(simp;done))))
 | (refine idDg ?_;refine dgr rfl rfl ?_)
 | (refine WD_nil (by first|decide +kernel|kernel_rfl|rfl) ?_)
      all_goals first
        | (exfalso;omega)
        | contradiction
        | (refine ⟨rfl,i + 1,by omega,by omega,[],?_⟩
           refine ⟨by decide,fun r hr=>absurd hr (Nat.not_lt_zero r),fun r hr=>(by cases hr),⟨⟨_,rfl,.pur⟩,⟨_,rfl,?_⟩,⟨_,rfl,?_⟩,trivial⟩,trivial⟩
           · rw [hsn];show Mv _ _ (.sl none 1 ((insC cmpI x O).map iC));rw [e2];exact .slN
           · rw [wsucc i (by omega)];exact .pur)
        | skip
    · have hyes : insC cmpI x O = O:=by
        obtain ⟨j,h,_,e⟩:=hm.1 rfl
        have hnj : ¬ j < n:=fun hh=>by have:=hz1 j h hh;omega
        have hnl : n < O.length:=by omega
        have h1:=hz2 n hnl (Nat.le_refl _) hnl
        have h2 : O[n] = x:=by
          rcases Nat.lt_or_eq_of_le (show n ≤ j by omega) with q|q
          · have:=hmono n j hnl h q;omega
          · subst q;exact e
        exact (hat.1 hnl (fun h=>by have:=ltI.1 h;omega)).1 (by rw [h2];exact wcI.refl x)
      rw [hyes] at hsn
      repeat' first
 | (apply p1 (hd:=rfl);case hop=>first|(apply D_move;rfl)|(apply D_assign;rfl)|(apply D_int;rfl;rfl;rfl)|(apply D_lenM;rfl))
 | refine W_seq ?_
 | refine W_region ?_
 | (refine idC ?_;first|refine c1 rfl ?_|refine cs rfl (fun _=>?_) (fun _=>?_))
 | refine WL_nil ?_
 | refine tn ?_
 | refine bn ?_
 | refine te ?_
 | (refine idB ?_;refine bh rfl ?_)
 | refine W_skip ?_
 | refine W_block ?_
 | refine W_exit ?_
 | (refine idW ?_;refine W_draw0 rfl ?_)
 | (apply d1 (hd:=rfl);case hop=>first|(apply D_move;rfl)|(apply D_assign;rfl)|(apply D_load1;rfl)|(apply D_pickT;rfl;rfl)|(apply D_int;rfl;rfl;rfl)|(apply D_idxAn;rfl;rfl;(first|omega|(simp;done))))
 | (refine idDg ?_;refine dg0f rfl rfl rfl ?_)
 | (refine WD_nil (by first|decide +kernel|kernel_rfl|rfl) ?_)
      all_goals first
        | (exfalso;omega)
        | contradiction
        | exact ⟨rfl,i + 1,by omega,by omega,[],renN ⟨⟨_,rfl,.pur⟩,⟨_,rfl,by rw [hsn];exact .pur⟩,⟨_,rfl,by rw [wsucc i (by omega)];exact .pur⟩,trivial⟩⟩
        | skip
noncomputable def curveR (l : List Fac) (as_ : List Int) : List Pt:=as_.foldl (fun out a=>if a = tMx then out else pushP (fun a=>(cntL l a : Int)) out a) []
theorem pushP_len (S : Int → Int) (out : List Pt) (a : Int) : (pushP S out a).length ≤ out.length + 1:=by
  unfold pushP;split <;> simp
theorem curveR_len (l : List Fac) (as_ : List Int) : (curveR l as_).length ≤ as_.length:=by
  have key : ∀ (as_ : List Int) (o : List Pt),(as_.foldl (fun out a=>if a = tMx then out else pushP (fun a=>(cntL l a : Int)) out a) o).length ≤ o.length + as_.length:=by
    intro as_
    induction as_ with
    | nil=>intro o;simp
    | cons a m ih =>
      intro o
      rw [List.foldl_cons]
      have h1:=ih (if a = tMx then o else pushP (fun a=>(cntL l a : Int)) o a)
      have h2 : (if a = tMx then o else pushP (fun a=>(cntL l a : Int)) o a).length ≤ o.length + 1:=by
        split
        · omega
        · exact pushP_len _ _ _
      simp only [List.length_cons];omega
  have:=key as_ []
  simpa [curveR] using this
theorem atsS_len (sp : List Sp) : (sp.flatMap atsS).length = 2 * sp.length:=by
  induction sp with
  | nil=>rfl
  | cons s l ih=>rw [List.flatMap_cons,List.length_append,ih];simp [atsS];omega
theorem atsL_len (l : List Fac) (h : ∀ f,f ∈ l → f.sp.length ≤ 750) : (atsL l).length ≤ 1500 * l.length:=by
  induction l with
  | nil=>simp [atsL]
  | cons f l ih =>
    have h1:=h f List.mem_cons_self
    have h2:=ih fun g hg=>h g (List.mem_cons_of_mem _ hg)
    have h3:=atsS_len f.sp
    unfold atsL at *
    rw [List.flatMap_cons,List.length_append,List.length_cons];omega
end Go.Proofs

namespace Go.Proofs
open Go.AL Go.Sort
attribute [local irreducible] Go.AL.W Go.AL.WL Go.AL.WD Go.AL.POp Go.AL.PPOp Go.AL.POpS Go.AL.PC Go.AL.AC Go.AL.YW Go.AL.Ret Go.AL.Le Go.AL.thn Go.AL.inBlk Go.AL.scp
structure Att where
  a : Int
  n : Int
  ad : Int
  en : Int
  vn : Int
  fn : Int
  lo : Val
  hi : Val
abbrev atC (x : Att) : List AV:=[.sc (.int .i64 x.a),.sc (.int .i64 x.n),.sc (.int .i64 x.ad),.sc (.int .i64 x.en),.sc (.int .i64 x.vn),.sc (.int .i64 x.fn),.sc (.int .i64 x.lo.kind),.sc (.int .i64 x.lo.n),str x.lo.s,.sc (.int .i64 x.hi.kind),.sc (.int .i64 x.hi.n),str x.hi.s]
abbrev eAt (x : Att) : AV:=.ag (atC x)
def cntM (m : List (Int × Int)) (k : Int) : List (Int × Int):=putM k (IntKind.i64.wrap (getM k m + 1)) m
theorem putM_keys {κ : Type} [DecidableEq κ] (a : κ) (v : Int) : ∀ es : List (κ × Int),(putM a v es).map Prod.fst = if a ∈ es.map Prod.fst then es.map Prod.fst else es.map Prod.fst ++ [a]
  | []=>by simp [putM]
  | p :: l=>by
    simp only [putM,List.map_cons,List.mem_cons]
    by_cases h : a = p.1
    · rw [if_pos h,if_pos (.inl h)];simp [h]
    · rw [if_neg h,List.map_cons,putM_keys a v l]
      by_cases h2 : a ∈ l.map Prod.fst
      · rw [if_pos h2,if_pos (.inr h2)]
      · rw [if_neg h2,if_neg (by rintro (e|e);exact h e;exact h2 e)];rfl
theorem cntM_keys (m : List (Int × Int)) (k x : Int) : x ∈ (cntM m k).map Prod.fst ↔ x ∈ m.map Prod.fst ∨ x = k:=by
  unfold cntM
  rw [putM_keys]
  split
  · rename_i h
    exact ⟨.inl,fun h2=>h2.elim id fun e=>e ▸ h⟩
  · rw [List.mem_append,List.mem_singleton]
theorem cntM_nodup {m : List (Int × Int)} (h : (m.map Prod.fst).Nodup) (k : Int) : ((cntM m k).map Prod.fst).Nodup:=by
  unfold cntM
  rw [putM_keys]
  split
  · exact h
  · rename_i hk
    exact List.nodup_append.2 ⟨h,by simp,fun a ha b hb=>by rw [List.mem_singleton.1 hb];exact fun e=>hk (e ▸ ha)⟩
theorem cntM_fold : ∀ (l : List Int) (m : List (Int × Int)),(m.map Prod.fst).Nodup → ((l.foldl cntM m).map Prod.fst).Nodup ∧ ∀ x,x ∈ (l.foldl cntM m).map Prod.fst ↔ x ∈ m.map Prod.fst ∨ x ∈ l
  | [],m,h=>⟨h,fun x=>by simp⟩
  | k :: l,m,h=>by
    obtain ⟨a,b⟩:=cntM_fold l (cntM m k) (cntM_nodup h k)
    refine ⟨a,fun x=>?_⟩
    rw [List.foldl_cons,b,cntM_keys,List.mem_cons,or_assoc]
theorem cntM_len (l : List Int) : (l.foldl cntM []).length = (insL cmpI l).length:=by
  obtain ⟨a,b⟩:=cntM_fold l [] (by simp)
  have h1 : ((l.foldl cntM []).map Prod.fst).Perm (insL cmpI l):=by
    refine (List.perm_ext_iff_of_nodup a ?_).2 fun x=>?_
    · exact (insI_rise l).imp fun h e=>by omega
    · rw [b,insI_mem];simp
  have:=h1.length_eq
  rwa [List.length_map] at this
theorem getM_put {κ : Type} [DecidableEq κ] (a b : κ) (v : Int) : ∀ es : List (κ × Int),getM b (putM a v es) = if b = a then v else getM b es
  | []=>by simp only [putM,getM]
  | p :: l=>by
    simp only [putM]
    by_cases h : a = p.1
    · rw [if_pos h]
      simp only [getM]
      by_cases h2 : b = a
      · rw [if_pos h2,if_pos h2]
      · rw [if_neg h2,if_neg h2,if_neg (fun e=>h2 (e.trans h.symm))]
    · rw [if_neg h]
      simp only [getM]
      by_cases h2 : b = p.1
      · rw [if_pos h2,if_pos h2,if_neg (fun e=>h (e.symm.trans h2))]
      · rw [if_neg h2,if_neg h2,getM_put a b v l]
theorem cntM_get (k : Int) : ∀ (l : List Int) (m : List (Int × Int)),0 ≤ getM k m → getM k m + l.length < 9223372036854775807 → getM k (l.foldl cntM m) = getM k m + ((l.filter fun x=>decide (x = k)).length : Int)
  | [],m,_,_=>by simp
  | x :: l,m,h0,h=>by
    simp only [List.length_cons] at h
    have e : getM k (cntM m x) = getM k m + (if x = k then 1 else 0):=by
      unfold cntM
      rw [getM_put]
      by_cases h2 : k = x
      · subst h2
        rw [if_pos rfl,if_pos rfl,w64 _ (by omega) (by omega)]
      · rw [if_neg h2,if_neg (fun e=>h2 e.symm)];omega
    rw [List.foldl_cons,cntM_get k l _ (by rw [e];split <;> omega) (by rw [e];split <;> omega),e,List.filter_cons]
    by_cases h2 : x = k
    · simp [h2];omega
    · simp [h2]
def addN (l : List Dat) : Nat:=(l.filter fun d=>d.add).length
theorem addN_take (l : List Dat) (i : Nat) (h : i < l.length) : addN (l.take (i + 1)) = addN (l.take i) + (if l[i].add = true then 1 else 0):=by
  unfold addN
  rw [List.take_succ_eq_append_getElem h,List.filter_append,List.length_append,List.filter_cons]
  by_cases hb : l[i].add = true <;> simp [hb]
noncomputable def valS (l : List Dat) : List Val:=sortC cmpV (l.map Dat.v)
noncomputable def oneA (l : List Dat) : Att:=⟨(l.headD dat0).a,l.length,addN l,(insL cmpI (l.map Dat.e)).length,(valS l).length,0,(valS l).headD val0,(valS l).getLastD val0⟩
theorem valS_ne {l : List Dat} (h : 0 < l.length) : 0 < (valS l).length:=by
  obtain ⟨d,hd⟩:=List.exists_mem_of_length_pos h
  have : d.v ∈ valS l:=(sortC_mem _ _ _).2 (List.mem_map.2 ⟨d,hd,rfl⟩)
  exact List.length_pos_of_mem this
theorem valS_len (l : List Dat) : (valS l).length ≤ l.length:=by
  have:=sortC_len cmpV (l.map Dat.v)
  rwa [List.length_map] at this
theorem headD_at {α : Type} (l : List α) (z : α) (h : 0 < l.length) : l.headD z = l[0]:=by
  cases l with
  | nil=>simp at h
  | cons x t=>rfl
theorem lastD_at {α : Type} (l : List α) (z : α) (h : 0 < l.length) : l.getLastD z = l[l.length - 1]:=by
  rw [List.getLastD_eq_getLast?,List.getLast?_eq_getElem?,List.getElem?_eq_getElem (by omega)];rfl
abbrev outC (x : Int) (n ad : Int) : List AV:=[.sc (.int .i64 x),.sc (.int .i64 n),.sc (.int .i64 ad),.sc (.int .i64 0),.sc (.int .i64 0),.sc (.int .i64 0),.sc (.int .i64 0),.sc (.int .i64 0),str [],.sc (.int .i64 0),.sc (.int .i64 0),str []]
set_option maxHeartbeats 32000000 in
theorem one_pc [GlobF Tryz.prog] (l : List Dat) (h0 : 0 < l.length) (hl : l.length < 1048576) : PC Tryz.prog 63 [sl9 l] (eAt (oneA l)):=by
  have hv:=vsort_pc (l.map Dat.v) (by rw [List.length_map];omega)
  have hvl:=valS_len l
  have hvp:=valS_ne h0
  have hvq : (valS l).length - 1 < (valS l).length:=by omega
  have e1:=cntM_len (l.map Dat.e)
  have e2 : oneA l = ⟨(l[0]'h0).a,l.length,addN l,((l.map Dat.e).foldl cntM []).length,(valS l).length,0,(valS l)[0]'hvp,(valS l)[(valS l).length - 1]'hvq⟩:=by
    unfold oneA
    rw [headD_at l dat0 h0,headD_at _ val0 hvp,lastD_at _ val0 hvp,e1]
  rw [e2]
  rw [show sortC cmpV (l.map Dat.v) = valS l from rfl] at hv
  refine PC.of_body Tryz.func63 Tryz.ntmps63 rfl rfl rfl ?_
  repeat' first
 | (refine m_alloc (d:=3) rfl ?_)
 | (refine m_mkMap rfl ?_;intro b)
 | (apply p1 (hd:=rfl);case hop=>first|(apply D_move;rfl)|(apply D_assign;rfl)|(apply D_load1;rfl)|(apply D_fld;rfl)|(apply D_lenM;rfl)|(apply D_idxAn;rfl;rfl;(first|omega|(simp;done)))|exact D_build rfl)
 | refine W_seq ?_
 | refine W_region ?_
 | refine WL_nil ?_
 | refine tn ?_
 | refine W_block ?_
 | (refine idA ?_;refine m_alloc rfl ?_)
 | (refine idS ?_;refine pS (S_store rfl rfl rfl rfl rfl rfl rfl) ?_)
  refine W_adopt 5 3 46 rfl ?_
  refine W_loopL (X:=Nat) (fun i=>[(0,sl9 l),(2,.bp 0 0),(3,.bp 1 0),(4,.sc (.map (some b))),(5,.sl (some 3) 3 ((l.take i).map fun d=>vC d.v)),(16,sl9 l),(17,.sc (.int .i64 (l.length : Int))),(18,.sc (.int .i64 (i : Int)))]) (fun i=>[.cells (outC 0 0 0),.cells (outC (l[0]'h0).a l.length (addN (l.take i))),mapA kvI b (((l.take i).map Dat.e).foldl cntM []),.tail ((l.take i).map fun d=>vC d.v).length 3 46])
    (fun i=>i ≤ l.length) (fun i=>l.length - i) 0 (Nat.zero_le _) ⟨rfl,rfl,rfl,rfl,rfl,rfl,rfl,rfl,trivial⟩ rfl ?_
  intro i hi
  have hal : addN (l.take i) ≤ i:=Nat.le_trans (List.length_filter_le _ _) (by rw [List.length_take];omega)
  by_cases hil : i < l.length
  · have hsa:=addN_take l i hil
    have hsm : ((l.take (i + 1)).map Dat.e).foldl cntM [] = cntM (((l.take i).map Dat.e).foldl cntM []) (l[i]'hil).e:=by
      rw [List.take_succ_eq_append_getElem hil,List.map_append,List.foldl_append];rfl
    have hsv : (l.take (i + 1)).map (fun d=>vC d.v) = (l.take i).map (fun d=>vC d.v) ++ [vC (l[i]'hil).v]:=by
      rw [List.take_succ_eq_append_getElem hil,List.map_append];rfl
    have hvi : ((l.take i).map fun d=>vC d.v).length = i:=by rw [List.length_map,List.length_take];omega
    generalize (l.take i).map (fun d=>vC d.v) = VV at *
    generalize ((l.take i).map Dat.e).foldl cntM [] = MM at *
    generalize addN (l.take i) = AA at *
    have hwm : IntKind.i64.wrap ((AA : Int) + 1) = ((AA + 1 : Nat) : Int):=wsucc AA (by omega)
    repeat' first
 | (refine p1L (D_mapG (kv:=kvI) rfl rfl (r:=2) rfl) rfl ?_)
 | (refine pS (S_mapU (kv:=kvI) rfl rfl rfl (r:=2) rfl) ?_)
 | (apply p1 (hd:=rfl);case hop=>first|(apply D_move;rfl)|(apply D_assign;rfl)|(apply D_load1;rfl)|(apply D_fld;rfl)|(apply D_int;rfl;rfl;rfl)|(apply D_loadW;rfl;rfl)|(apply D_loadA;rfl;rfl)|(apply D_idxAn;rfl;rfl;(first|omega|(simp;done)))|(apply D_lit;rfl;rfl;rfl;rfl)|exact D_fldB rfl)
 | refine W_seq ?_
 | refine W_region ?_
 | (refine idC ?_;refine cs rfl (fun _=>?_) (fun _=>?_))
 | refine WL_nil ?_
 | refine tn ?_
 | refine bn ?_
 | refine te ?_
 | (refine idB ?_;refine bh rfl ?_)
 | refine W_skip ?_
 | refine W_block ?_
 | refine W_exit ?_
 | (refine idLd ?_;refine p1L (D_loadB1 rfl rfl rfl) rfl ?_)
 | (refine idA ?_;refine m_var rfl rfl rfl rfl rfl rfl rfl ?_)
 | (refine idS ?_;refine pS (S_store rfl rfl rfl rfl rfl rfl rfl) ?_)
 | (refine idAp ?_;refine m_appB rfl rfl rfl (by first|rfl|assumption|exact get_set (by assumption)|exact get_set (get_set (by assumption))|exact get_set (get_set (get_set (by assumption)))|((repeat first|assumption|exact get_last|(refine get_last2 ?_;focus (simp;done))|apply get_set|apply get_app|(apply get_ne;focus omega));done)) ?_ rfl rfl ?_ ?_ rfl ?_;(first|rfl|focus (simp only [List.length_map,List.length_append,List.length_cons,List.length_nil];omega)|focus (simp;done)|focus (simp;omega));(first|focus (simp only [List.length_map,List.length_append,List.length_cons,List.length_nil];omega)|focus (simp;done)|focus (simp;omega));(first|focus (simp only [List.length_map,List.length_append,List.length_cons,List.length_nil];omega)|focus (simp;done)|focus (simp;omega)))
    all_goals first
      | contradiction
      | (exfalso;omega)
      | (rw [if_pos (by assumption)] at hsa
         refine ⟨rfl,i + 1,by omega,by omega,⟨rfl,rfl,rfl,rfl,?_,rfl,rfl,ieq (wsucc i (by omega)),trivial⟩,?_⟩
         · rw [hsv];rfl
         · rw [hsa,hsm,hsv,← hwm,List.length_append];rfl)
      | (rw [if_neg (by rw [(by assumption : (l[i]'hil).add = false)];decide),Nat.add_zero] at hsa
         refine ⟨rfl,i + 1,by omega,by omega,⟨rfl,rfl,rfl,rfl,?_,rfl,rfl,ieq (wsucc i (by omega)),trivial⟩,?_⟩
         · rw [hsv];rfl
         · rw [hsa,hsm,hsv,List.length_append];rfl)
      | skip
  · have e : i = l.length:=by omega
    subst e
    rw [List.take_length] at *
    rw [show (l.map fun d=>vC d.v) = (l.map Dat.v).map vC by rw [List.map_map];rfl]
    clear e2 e1
    generalize valS l = VS at *
    generalize (l.map Dat.e).foldl cntM [] = MM at *
    generalize addN l = AA at *
    have hsub : Value.int .i64 (IntKind.i64.wrap ((VS.length : Int) - 1)) = .int .i64 ((VS.length - 1 : Nat) : Int):=by rw [w64 _ (by omega) (by omega)];congr 1;omega
    repeat' first
 | (refine p1L (D_mapL (kv:=kvI) rfl (r:=2) rfl) rfl ?_)
 | (apply p1 (hd:=rfl);case hop=>first|(apply D_move;rfl)|(apply D_assign;rfl)|(apply D_pc hv;rfl;exact .tok rfl .nil)|(apply D_load1;rfl)|(apply D_fld;rfl)|(apply D_int;rfl;rfl;rfl)|(apply D_lenM;rfl)|(apply D_loadW;rfl;rfl)|(apply D_idxAn;rfl;rfl;(first|omega|(simp;done)))|exact D_fldB rfl)
 | refine W_seq ?_
 | refine W_region ?_
 | (refine idC ?_;refine cs rfl (fun _=>?_) (fun _=>?_))
 | refine WL_nil ?_
 | refine tn ?_
 | refine te ?_
 | (refine idB ?_;refine bh rfl ?_)
 | refine W_skip ?_
 | refine W_block ?_
 | refine W_exit ?_
 | refine W_ret ?_
 | (refine idR ?_;first|refine rL1 rfl (by first|exact trivial|exact ⟨rfl,trivial⟩) (by first|exact ResO.tmp rfl|exact ResO.cellBA rfl rfl rfl|exact ResO.cellB1 rfl rfl rfl|exact ResO.cellEA rfl rfl|exact ResO.cellE1 rfl) ?_)
 | (refine idLd ?_;first|refine p1L (D_loadB1 rfl rfl rfl) rfl ?_|refine p1L (D_loadBA rfl rfl rfl) rfl ?_)
 | (refine idA ?_;refine m_var rfl rfl rfl rfl rfl rfl rfl ?_)
 | (refine idS ?_;refine pS (S_store rfl rfl rfl rfl rfl rfl rfl) ?_)
 | (refine idW ?_;refine W_draw0 rfl ?_)
 | (apply d1 (hd:=rfl);case hop=>first|(apply D_move;rfl)|exact D_sc (D_int rfl rfl rfl) hsub|(apply D_lenM;rfl)|(apply D_loadW;rfl;rfl)|(apply D_idxAn;rfl;rfl;(first|omega|(simp;done)))|exact D_fldB rfl)
 | (refine idDn ?_;refine dS (S_store rfl rfl rfl rfl rfl rfl rfl) rfl ?_)
 | (refine WD_nil (by first|decide +kernel|kernel_rfl|rfl) ?_)
    all_goals first
      | contradiction
      | (exfalso;omega)
      | exact Le.of_eq rfl
      | skip
end Go.Proofs
