/- Plain laws of texts' nodes: how many nodes the machine makes, and how deep; a text within a bracket. No condition. -/
import Derived.Test.YtnjnjbombcefcaaDoorCDInst
import Derived.Test.YtnjnjbombcefcaaDoorCX0
import Derived.Test.YtnjnjbombcefcaaDoorCX7
import Derived.Test.YtnjnjbombcefcaaDoorCX3
import Derived.Test.YtnjnjbombcefcaaDoorOpen
import Derived.Lib.LaidTab
import Derived.MakeChecks
import Derived.LaidSub
set_option linter.all false
namespace Go.Txt
def stkN : List (List Nd × Nd) → Nat
  | []=>0
  | x :: l=>nszL x.1 + 1 + stkN l
def cD (d : Nat) : List (List Nd × Nd) → Nat
  | []=>d
  | x :: l=>cD (max (ndpL x.1) (1 + d)) l
theorem cD_max : ∀ (stk : List (List Nd × Nd)) (d : Nat),cD d stk = max (cD 0 stk) (d + stk.length)
  | [],d=>by simp [cD]
  | x :: l,d=>by
    simp only [cD,List.length_cons]
    rw [cD_max l (max (ndpL x.1) (1 + d)),cD_max l (max (ndpL x.1) (1 + 0))]
    omega
theorem nsz_leafN (x : Int × Int × Int × List UInt8 × List UInt8) (a b : Nat) : nsz (leafN x a b) = 1:=by simp [leafN,nsz,nszL]
theorem ndp_leafN {x : Int × Int × Int × List UInt8 × List UInt8} (hx : x.1 < 3) (a b : Nat) : ndp (leafN x a b) = 0:=by simp [leafN,ndp,hx]
theorem nsz_within (h : Nd) (l : List Nd) : nsz (h.within l) = 1 + nszL l:=by cases h;simp [Nd.within,nsz]
theorem ndp_within {h : Nd} (hk : 3 ≤ h.k) (l : List Nd) : ndp (h.within l) = 1 + ndpL l:=by
  cases h with
  | mk k a b c d ks x y =>
    simp only [Nd.k] at hk
    simp only [Nd.within,ndp]
    rw [if_neg (by omega)]
theorem nszL_one (x : Nd) : nszL [x] = nsz x:=by simp [nszL]
theorem ndpL_one (x : Nd) : ndpL [x] = ndp x:=by simp [ndpL]
theorem mach_many (leaf : Leaf) (hk : ∀ w x,leaf w = some x → x.1 < 3) (a b : Nat) : ∀ (ts : List Tok) (cur : List Nd) (stk : List (List Nd × Nd)) (many : Nat) (l : List Nd),
    mach leaf (ts ++ [⟨[],a,b,false⟩]) cur stk many = .ok l → nszL cur + stkN stk = many → many ≤ 5000 → cD (ndpL cur) stk ≤ 50 →
    many ≤ nszL l ∧ nszL l ≤ 5000 ∧ cD (ndpL cur) stk ≤ ndpL l ∧ ndpL l ≤ 50
  | [],cur,stk,many,l,h,h1,h2,h3=>by
    rw [List.nil_append,mach] at h
    cases stk with
    | nil =>
      simp only [Bool.false_eq_true,ne_eq,not_true_eq_false,and_false,or_self,if_false] at h
      cases h
      simp only [stkN,cD] at h1 h3 ⊢
      omega
    | cons x stk=>simp at h
  | t :: ts,cur,stk,many,l,h,h1,h2,h3=>by
    rw [List.cons_append,mach] at h
    split at h
    · cases h
    next hb =>
    obtain ⟨w,ln,cl,bd⟩:=t
    cases w with
    | nil =>
      simp only at h hb
      cases h
      have hs : stk = []:=by
        rcases Classical.em (stk = []) with e|e
        · exact e
        · exact absurd (.inr ⟨trivial,e⟩) hb
      subst hs
      simp only [stkN,cD] at h1 h3 ⊢
      omega
    | cons c r =>
      simp only at h
      split at h
      · next hc =>
        cases stk with
        | nil=>cases h
        | cons x stk =>
          obtain ⟨o,hd⟩:=x
          simp only at h
          split at h
          · next he =>
            have hk3 : 3 ≤ hd.k:=by omega
            have ih:=mach_many leaf hk a b ts _ stk many l h (by
              rw [nszL_app,nszL_one,nsz_within]
              simp only [stkN] at h1
              omega) h2 (by
              rw [ndpL_app,ndpL_one,ndp_within hk3]
              exact h3)
            rw [ndpL_app,ndpL_one,ndp_within hk3] at ih
            exact ih
          · cases h
      · split at h
        · cases h
        · next hm =>
          split at h
          · split at h
            · cases h
            · next hl =>
              have ih:=mach_many leaf hk a b ts [] ((cur,opnN c ln cl []) :: stk) (many + 1) l h (by
                simp only [stkN,nszL];omega) (by omega) (by
                simp only [cD,ndpL]
                rw [cD_max]
                rw [cD_max] at h3
                have:=cD_max stk (ndpL cur)
                have h5 : stk.length ≤ 50:=by omega
                omega)
              have e : cD (ndpL cur) stk ≤ cD (ndpL []) ((cur,opnN c ln cl []) :: stk):=by
                simp only [cD,ndpL]
                rw [cD_max stk (ndpL cur),cD_max stk (max (ndpL cur) (1 + 0))]
                omega
              omega
          · cases hlf : leaf (c :: r) with
            | none=>rw [hlf] at h;cases h
            | some x =>
              rw [hlf] at h
              simp only at h
              have ih:=mach_many leaf hk a b ts _ stk (many + 1) l h (by
                rw [nszL_app,nszL_one,nsz_leafN];omega) (by omega) (by
                rw [ndpL_app,ndpL_one,ndp_leafN (hk _ _ hlf),Nat.max_zero];exact h3)
              rw [ndpL_app,ndpL_one,ndp_leafN (hk _ _ hlf),Nat.max_zero] at ih
              omega
theorem mach_end_bad (leaf : Leaf) (a b : Nat) : ∀ (ts : List Tok) (cur : List Nd) (stk : List (List Nd × Nd)) (many : Nat) (l : List Nd),(∀ t,t ∈ ts → t.s ≠ []) →
    mach leaf (ts ++ [⟨[],a,b,true⟩]) cur stk many ≠ .ok l
  | [],cur,stk,many,l,_=>by rw [List.nil_append,mach];simp
  | t :: ts,cur,stk,many,l,hs=>by
    have ih:=fun cur stk many=>mach_end_bad leaf a b ts cur stk many l fun t ht=>hs t (List.mem_cons_of_mem _ ht)
    have ht:=hs t (List.mem_cons_self ..)
    obtain ⟨w,ln,cl,bd⟩:=t
    cases w with
    | nil=>exact absurd rfl ht
    | cons c r =>
      rw [List.cons_append,mach]
      split
      · exact fun e=>nomatch e
      simp only
      split
      · split
        · exact fun e=>nomatch e
        · split
          · exact ih _ _ _
          · exact fun e=>nomatch e
      · split
        · exact fun e=>nomatch e
        · split
          · split
            · exact fun e=>nomatch e
            · exact ih _ _ _
          · split
            · exact ih _ _ _
            · exact fun e=>nomatch e
structure Al2 (t u : Tok) : Prop where
  s : u.s = t.s
  bad : u.bad = t.bad
inductive All2 : List Tok → List Tok → Prop where
  | nil : All2 [] []
  | cons {t u : Tok} {l m : List Tok} (h : Al2 t u) (hl : All2 l m) : All2 (t :: l) (u :: m)
theorem tw_all {p : UInt8 → Bool} : ∀ (l : List UInt8),∀ c,c ∈ l.takeWhile p → p c = true
  | [],c,h=>by cases h
  | d :: l,c,h=>by
    rw [List.takeWhile_cons] at h
    split at h
    · next hd =>
      rcases List.mem_cons.1 h with rfl|h
      · exact hd
      · exact tw_all l c h
    · cases h
theorem tw_app {p : UInt8 → Bool} (hp : p 10 = false) (l r : List UInt8) : (l ++ 10 :: r).takeWhile p = l.takeWhile p ∧ (l ++ 10 :: r).dropWhile p = l.dropWhile p ++ 10 :: r:=by
  induction l with
  | nil=>simp [hp]
  | cons c l ih =>
    cases h : p c with
    | true=>simp [h,ih.1,ih.2]
    | false=>simp [h]
theorem sz_app {c : UInt8} {l r : List UInt8} {n : Nat} (h : sz (c :: l) = some n) : sz (c :: (l ++ 10 :: r)) = some n:=by
  simp only [sz] at h ⊢
  split at h
  · next hc =>
    rw [if_pos hc]
    split at h
    · next hm =>
      rw [if_pos (List.mem_append_left _ hm)]
      have e : (l ++ 10 :: r).takeWhile nqt = l.takeWhile nqt:=by
        clear h
        induction l with
        | nil=>cases hm
        | cons d l ih =>
          by_cases hd : d = 34
          · subst hd;simp [nqt]
          · have hq : nqt d = true:=by simpa [nqt] using hd
            have:=ih ((List.mem_cons.1 hm).resolve_left (Ne.symm hd))
            simp [hq,this]
      rw [e];exact h
    · cases h
  · next hc =>
    rw [if_neg hc]
    have e : wordN (c :: (l ++ 10 :: r)) = wordN (c :: l):=by
      unfold wordN
      have:=(tw_app (p:=wordC) (by decide) (c :: l) r).1
      rw [← this];rfl
    rw [e];exact h
theorem toks_in (r : List UInt8) : ∀ (N : Nat) (l : List UInt8) (ln cl ln' cl' : Nat) (w : Bool),l.length ≤ N →
    ∃ ts a b bd,toks l ln cl w = ts ++ [⟨[],a,b,bd⟩] ∧ (∀ t,t ∈ ts → t.s ≠ []) ∧ (bd = false → ∃ ts' a',toks (l ++ 10 :: r) ln' cl' w = ts' ++ toks r a' 1 false ∧ All2 ts ts'):=by
  intro N
  induction N with
  | zero =>
    intro l ln cl ln' cl' w h
    obtain rfl : l = []:=List.length_eq_zero_iff.1 (by omega)
    refine ⟨[],ln,cl,false,by rw [toks];rfl,by simp,fun _=>⟨[],ln' + 1,?_,.nil⟩⟩
    rw [List.nil_append,toks,if_pos rfl];rfl
  | succ N ih =>
    intro l ln cl ln' cl' w h
    cases l with
    | nil =>
      refine ⟨[],ln,cl,false,by rw [toks];rfl,by simp,fun _=>⟨[],ln' + 1,?_,.nil⟩⟩
      rw [List.nil_append,toks,if_pos rfl];rfl
    | cons c l =>
      simp only [List.length_cons] at h
      rw [List.cons_append,toks,toks]
      by_cases h10 : c = 10
      · rw [if_pos h10,if_pos h10];exact ih l _ _ _ _ _ (by omega)
      rw [if_neg h10,if_neg h10]
      by_cases hb : blankB c = true
      · rw [if_pos hb,if_pos hb];exact ih l _ _ _ _ _ (by omega)
      rw [if_neg hb,if_neg hb]
      by_cases h59 : c = 59
      · rw [if_pos h59,if_pos h59]
        obtain ⟨e1,e2⟩:=tw_app (p:=nnl) (by decide) l r
        rw [e2,e1]
        exact ih _ _ _ _ _ _ (Nat.le_trans (List.dropWhile_suffix _).length_le (by omega))
      rw [if_neg h59,if_neg h59]
      by_cases hk : c ∈ opn ++ cls
      · rw [if_pos hk,if_pos hk]
        obtain ⟨ts,a,b,bd,e1,e2,e3⟩:=ih l ln (cl + 1) ln' (cl' + 1) false (by omega)
        refine ⟨⟨[c],ln,cl,false⟩ :: ts,a,b,bd,by rw [e1];rfl,fun t ht=>?_,fun hbd=>?_⟩
        · rcases List.mem_cons.1 ht with rfl|ht
          · exact fun e=>nomatch e
          · exact e2 t ht
        · obtain ⟨ts',a',e4,e5⟩:=e3 hbd
          exact ⟨⟨[c],ln',cl',false⟩ :: ts',a',by rw [e4];rfl,.cons ⟨rfl,rfl⟩ e5⟩
      rw [if_neg hk,if_neg hk]
      split
      · refine ⟨[],(if w = false ∧ c = 34 then (advL (ln,cl) (c :: l)).1 else ln),(if w = false ∧ c = 34 then (advL (ln,cl) (c :: l)).2 else cl),true,?_,by simp,fun e=>nomatch e⟩
        split <;> rfl
      · next n hn =>
        split
        · exact ⟨[],ln,cl,true,rfl,by simp,fun e=>nomatch e⟩
        · next hw =>
          have hn2:=sz_app (r:=r) hn
          have hp:=sz_pos hn
          obtain ⟨m,rfl⟩ : ∃ m,n = m + 1:=⟨n - 1,by omega⟩
          have hle : m + 1 ≤ (c :: l).length:=by
            have hr : sz (c :: l) = some (m + 1):=hn
            simp only [sz] at hr
            split at hr
            · split at hr
              · next hm =>
                cases hr
                have h1:=drop_tw nqt l
                have h2 : (l.takeWhile nqt).length ≤ l.length:=(List.takeWhile_prefix _).length_le
                have h3 : (l.takeWhile nqt).length ≠ l.length:=fun e=>by
                  have h4 : l.takeWhile nqt = l:=(List.takeWhile_prefix _).eq_of_length e
                  have:=h4 ▸ hm
                  have h5:=tw_all l 34 this
                  revert h5;decide
                simp only [List.length_cons];omega
              · cases hr
            · split at hr
              · cases hr
              · have hr:=Option.some.inj hr
                rw [← hr]
                unfold wordN
                exact (List.takeWhile_prefix _).length_le
          obtain ⟨ts,a,b,bd,e1,e2,e3⟩:=ih ((c :: l).drop (m + 1)) ln (cl + (m + 1)) ln' (cl' + (m + 1)) true (by simp only [List.length_drop,List.length_cons];omega)
          refine ⟨⟨(c :: l).take (m + 1),ln,cl,false⟩ :: ts,a,b,bd,by rw [e1];rfl,fun t ht=>?_,fun hbd=>?_⟩
          · rcases List.mem_cons.1 ht with rfl|ht
            · exact fun e=>nomatch e
            · exact e2 t ht
          · obtain ⟨ts',a',e4,e5⟩:=e3 hbd
            refine ⟨⟨(c :: l).take (m + 1),ln',cl',false⟩ :: ts',a',?_,.cons ⟨rfl,rfl⟩ e5⟩
            split
            · next hx=>rw [hn2] at hx;cases hx
            · next n2 hx =>
              rw [hn2] at hx
              cases hx
              have ed : (c :: (l ++ 10 :: r)).drop (m + 1) = (c :: l).drop (m + 1) ++ 10 :: r:=by
                rw [← List.cons_append,List.drop_append_of_le_length hle]
              have et : (c :: (l ++ 10 :: r)).take (m + 1) = (c :: l).take (m + 1):=by
                rw [← List.cons_append,List.take_append_of_le_length hle]
              rw [ed,e4,et];rfl
def eraS (l : List (List Nd × Nd)) : List (List Nd × Nd):=l.map fun x=>(eraL x.1,era x.2)
theorem era_k {x y : Nd} (h : era x = era y) : x.k = y.k:=by
  cases x;cases y;simp only [era,Nd.mk.injEq] at h;exact h.1
theorem era_within {x y : Nd} {l m : List Nd} (h : era x = era y) (hl : eraL l = eraL m) : era (x.within l) = era (y.within m):=by
  cases x;cases y
  simp only [era,Nd.mk.injEq] at h
  obtain ⟨rfl,rfl,rfl,rfl,rfl,_⟩:=h
  simp only [Nd.within,era,hl]
theorem mach_in (leaf : Leaf) (hk : ∀ w x,leaf w = some x → x.1 < 3) (hd : Nd) (hhd : hd.k = 5) (a b a' b' a'' b'' : Nat) {ts ts' : List Tok} (hf : All2 ts ts') :
    ∀ (cur cur' : List Nd) (stk stk' : List (List Nd × Nd)) (many : Nat) (l : List Nd),(∀ t,t ∈ ts → t.s ≠ []) → eraL cur = eraL cur' → eraS stk = eraS stk' →
    mach leaf (ts ++ [⟨[],a,b,false⟩]) cur stk many = .ok l → nszL cur + stkN stk = many → many ≤ 5000 → cD (ndpL cur) stk ≤ 50 →
    match mach leaf (ts' ++ [⟨[125],a',b',false⟩,⟨[],a'',b'',false⟩]) cur' (stk' ++ [([],hd)]) (many + 1) with
    | .err _ _=>nszL l = 5000 ∨ ndpL l = 50
    | .ok m=>∃ l',m = [hd.within l'] ∧ eraL l' = eraL l:=by
  induction hf with
  | nil =>
    intro cur cur' stk stk' many l _ hc hs h h1 h2 h3
    rw [List.nil_append,mach] at h
    cases stk with
    | cons x stk=>simp at h
    | nil =>
      have hs' : stk' = []:=by simpa [eraS] using hs.symm
      subst hs'
      simp only [Bool.false_eq_true,ne_eq,not_true_eq_false,and_false,or_self,if_false] at h
      cases h
      have h5 : hd.k = 3 + ((List.idxOf (125 : UInt8) cls : Nat) : Int):=by rw [hhd];decide
      simp only [List.nil_append]
      rw [mach]
      simp only [Bool.false_eq_true,List.cons_ne_nil,ne_eq,not_false_eq_true,and_true,or_self,if_false]
      rw [if_pos ⟨trivial,by decide⟩,if_pos h5,mach]
      simp only [Bool.false_eq_true,ne_eq,not_true_eq_false,and_false,or_self,if_false]
      exact ⟨cur',rfl,hc.symm⟩
  | @cons t t' ts ts' ht hts ih =>
    intro cur cur' stk stk' many l hne hc hs h h1 h2 h3
    have ht0:=hne t (List.mem_cons_self ..)
    have hne' : ∀ u,u ∈ ts → u.s ≠ []:=fun u hu=>hne u (List.mem_cons_of_mem _ hu)
    obtain ⟨w,ln,cl,bd⟩:=t
    obtain ⟨w',ln',cl',bd'⟩:=t'
    obtain ⟨e1,e2⟩:=ht
    simp only at e1 e2
    subst e1 e2
    cases w' with
    | nil=>exact absurd rfl ht0
    | cons c r =>
      have hlen : stk'.length = stk.length:=by
        have:=congrArg List.length hs
        simpa [eraS] using this.symm
      have hall:=h
      rw [List.cons_append,mach] at h ⊢
      cases bd' with
      | true=>simp at h
      | false =>
        simp only [Bool.false_eq_true,List.cons_ne_nil,false_and,or_self,if_false] at h ⊢
        by_cases hcl : r = [] ∧ c ∈ cls
        · rw [if_pos hcl] at h ⊢
          cases stk with
          | nil=>cases h
          | cons x stk =>
            cases stk' with
            | nil=>simp at hlen
            | cons x' stk' =>
              obtain ⟨o,hx⟩:=x
              obtain ⟨o',hx'⟩:=x'
              simp only [eraS,List.map_cons,List.cons.injEq,Prod.mk.injEq] at hs
              obtain ⟨⟨q1,q2⟩,q3⟩:=hs
              simp only [List.cons_append] at h ⊢
              rw [← era_k q2]
              split at h
              · next he =>
                rw [if_pos he]
                have hk3 : 3 ≤ hx.k:=by omega
                refine ih _ _ stk stk' many l hne' ?_ q3 h ?_ h2 ?_
                · rw [eraL_app,eraL_app,q1];simp only [eraL,era_within q2 hc]
                · rw [nszL_app,nszL_one,nsz_within];simp only [stkN] at h1;omega
                · rw [ndpL_app,ndpL_one,ndp_within hk3];exact h3
              · cases h
        rw [if_neg hcl] at h ⊢
        by_cases hm : 5000 < many + 1
        · rw [if_pos hm] at h;cases h
        rw [if_neg hm] at h
        have hmany : many + 1 ≤ nszL l ∧ nszL l ≤ 5000 ∧ ndpL l ≤ 50 ∧ (r = [] ∧ c ∈ opn → stk.length + 1 ≤ ndpL l):=by
          by_cases hop : r = [] ∧ c ∈ opn
          · rw [if_pos hop] at h
            split at h
            · cases h
            · next hl =>
              have hq:=cD_max stk (ndpL cur)
              have h6:=cD_max stk (max (ndpL cur) (1 + 0))
              have:=mach_many leaf hk a b ts [] ((cur,opnN c ln cl []) :: stk) (many + 1) l h (by simp only [stkN,nszL];omega) (by omega) (by
                simp only [cD,ndpL]
                omega)
              simp only [cD,ndpL] at this
              refine ⟨this.1,this.2.1,this.2.2.2,fun _=>?_⟩
              omega
          · rw [if_neg hop] at h
            cases hlf : leaf (c :: r) with
            | none=>rw [hlf] at h;cases h
            | some x =>
              rw [hlf] at h
              simp only at h
              have:=mach_many leaf hk a b ts _ stk (many + 1) l h (by
                rw [nszL_app,nszL_one,nsz_leafN];omega) (by omega) (by
                rw [ndpL_app,ndpL_one,ndp_leafN (hk _ _ hlf),Nat.max_zero];exact h3)
              exact ⟨this.1,this.2.1,this.2.2.2,fun e=>absurd e hop⟩
        by_cases hm2 : 5000 < many + 1 + 1
        · rw [if_pos hm2]
          simp only
          exact .inl (by omega)
        rw [if_neg hm2]
        by_cases hop : r = [] ∧ c ∈ opn
        · rw [if_pos hop] at h ⊢
          split at h
          · cases h
          · next hl =>
            rw [List.length_append,hlen]
            by_cases h49 : stk.length + 1 = 50
            · rw [if_pos (by simpa using h49)]
              simp only
              have:=hmany.2.2.2 hop
              exact .inr (by omega)
            · rw [if_neg (by simpa using h49)]
              rw [← List.cons_append]
              refine ih [] [] ((cur,opnN c ln cl []) :: stk) ((cur',opnN c ln' cl' []) :: stk') (many + 1) l hne' rfl ?_ h (by simp only [stkN,nszL];omega) (by omega) ?_
              · simp only [eraS,List.map_cons,hc,opnN,era,eraL]
                exact congrArg _ hs
              · simp only [cD,ndpL]
                have hq:=cD_max stk (ndpL cur)
                have h6:=cD_max stk (max (ndpL cur) (1 + 0))
                omega
        · rw [if_neg hop] at h ⊢
          cases hlf : leaf (c :: r) with
          | none=>rw [hlf] at h;cases h
          | some x =>
            rw [hlf] at h
            simp only at h ⊢
            refine ih _ _ stk stk' (many + 1) l hne' ?_ hs h ?_ (by omega) ?_
            · rw [eraL_app,eraL_app,hc];simp only [eraL,leafN,era]
            · rw [nszL_app,nszL_one,nsz_leafN];omega
            · rw [ndpL_app,ndpL_one,ndp_leafN (hk _ _ hlf),Nat.max_zero];exact h3
theorem within_ok (leaf : Leaf) (hk : ∀ w x,leaf w = some x → x.1 < 3) (s : List UInt8) (l : List Nd) (h : mach leaf (toks s 1 1 false) [] [] 0 = .ok l) :
    nszL l ≤ 5000 ∧ ndpL l ≤ 50 ∧ match mach leaf (toks (123 :: (s ++ [10,125])) 1 1 false) [] [] 0 with
    | .err _ _=>nszL l = 5000 ∨ ndpL l = 50
    | .ok m=>∃ l' ,m = [(opnN 123 1 1 []).within l'] ∧ eraL l' = eraL l:=by
  obtain ⟨ts,a,b,bd,e1,e2,e3⟩:=toks_in [125] s.length s 1 1 1 2 false (Nat.le_refl _)
  rw [e1] at h
  cases bd with
  | true=>exact absurd h (mach_end_bad leaf a b ts _ _ _ l e2)
  | false =>
    have hm:=mach_many leaf hk a b ts [] [] 0 l h rfl (by decide) (by simp [cD,ndpL])
    refine ⟨hm.2.1,hm.2.2.2,?_⟩
    obtain ⟨ts',a',e4,e5⟩:=e3 rfl
    have ht : toks (123 :: (s ++ [10,125])) 1 1 false = ⟨[123],1,1,false⟩ :: (ts' ++ [⟨[125],a',1,false⟩,⟨[],a',2,false⟩]):=by
      rw [toks,if_neg (by decide),if_neg (by decide),if_neg (by decide),if_pos (by decide),e4]
      rw [toks,if_neg (by decide),if_neg (by decide),if_neg (by decide),if_pos (by decide),toks]
    rw [ht,mach]
    simp only [Bool.false_eq_true,List.cons_ne_nil,false_and,or_self,if_false]
    rw [if_neg (by decide),if_neg (by decide),if_pos ⟨trivial,by decide⟩,if_neg (by decide)]
    exact mach_in leaf hk (opnN 123 1 1 []) (by decide) a b a' 1 a' 2 e5 [] [] [] [] 0 l e2 rfl rfl h rfl (by decide) (by simp [cD,ndpL])
end Go.Txt

namespace Go.Txt
theorem rleaf_er {leaf : Leaf} {s : List UInt8} {i many q : Nat} (hi : i ≤ s.length) (h : rleaf leaf s i many = .error q) : q ≤ s.length:=by
  unfold rleaf at h
  split at h
  · cases h;exact Nat.le_refl _
  · next n hn =>
    have hl:=rsz_le hn
    rw [List.length_drop] at hl
    split at h
    · cases h;exact hi
    · split at h
      · cases h;exact hi
      · split at h
        · cases h
        · cases h;omega
theorem rnodes_er (leaf : Leaf) (s : List UInt8) : ∀ (f : Nat) (e : Option UInt8) (i deep many q : Nat),i ≤ s.length → rnodes leaf s f e i deep many = .error q → q ≤ s.length
  | 0,_,_,_,_,_,hi,h=>by rw [rnodes] at h;cases h;exact hi
  | f + 1, e, i,deep,many,q,hi,h=>by
    have hkl:=skipL_le _ (s.drop i) (Nat.le_refl _)
    rw [List.length_drop] at hkl
    rcases Nat.lt_or_ge (i + skipL (s.drop i)) s.length with hj|hj
    · by_cases hc : s[i + skipL (s.drop i)] ∈ cls
      · rw [rnodes_cl hj hc] at h
        split at h
        · cases h
        · cases h;omega
      · rw [rnodes_nd hj hc] at h
        split at h
        · next hx =>
          cases h
          unfold rnode at hx
          split at hx
          · split at hx
            · cases hx;omega
            · split at hx
              · next hks =>
                cases hx
                exact rnodes_er leaf s f _ _ _ _ _ (by omega) hks
              · cases hx
          · exact rleaf_er (by omega) hx
        · next x i3 m3 hx =>
          have h3:=rnode_le hj hx
          split at h
          · next hy=>cases h;exact rnodes_er leaf s f _ _ _ _ _ h3.2 hy
          · cases h
    · rw [rnodes_end hj] at h
      split at h
      · cases h;omega
      · cases h
theorem nsz_pos (x : Nd) : 0 < nsz x:=by cases x;simp only [nsz];omega
theorem nszL_len : ∀ (l : List Nd),l.length ≤ nszL l
  | []=>Nat.le_refl _
  | x :: l=>by have:=nszL_len l;have:=nsz_pos x;simp only [nszL,List.length_cons];omega
theorem nsz_mem : ∀ {l : List Nd} {x : Nd},x ∈ l → nsz x ≤ nszL l
  | y :: l,x,h=>by
    simp only [nszL]
    rcases List.mem_cons.1 h with rfl|h
    · omega
    · have:=nsz_mem h;omega
end Go.Txt

namespace Go.Proofs
open Go.AL Go.Txt
attribute [local irreducible] Go.AL.W Go.AL.WL Go.AL.WD Go.AL.POp Go.AL.PPOp Go.AL.POpS Go.AL.PC Go.AL.AC Go.AL.YW Go.AL.Ret Go.AL.Le Go.AL.thn Go.AL.inBlk Go.AL.scp
theorem leafT_k : ∀ w x,leafT w = some x → x.1 < 3:=fun w x h=>by
  unfold leafT at h
  split at h
  · cases h;exact (by decide : (1 : Int) < 3)
  · split at h
    · cases h;exact (by decide : (2 : Int) < 3)
    · cases h
theorem nodes_all [GlobF Tryd.prog] (s : List UInt8) (hs : s.length < 268435456) (p : Nat) : ∀ F,Rd.NodesOK s p F:=fun F=>by
  induction F using Nat.strongRecOn with
  | ind F ih=>exact Rd.nodes_ac s hs p F fun f hf=>Rd.node_ac s hs p f (ih f hf)
noncomputable def rdR (s : List UInt8) : RR:=rnodes leafT s (s.length + 1) none 0 0 0
theorem mach_rd (s : List UInt8) : mach leafT (toks s 1 1 false) [] [] 0 = match rdR s with
    | .error q=>.err (place s q).1 (place s q).2
    | .ok (xs,_,_)=>.ok xs:=parse_same leafT leaf10 s (s.length + 1) (Nat.lt_succ_self _)
set_option maxHeartbeats 8000000 in
theorem rparse_pc [GlobF Tryd.prog] (s : List UInt8) (hs : s.length < 268435456) : PC Tryd.prog 10 [str s] (resV (mach leafT (toks s 1 1 false) [] [] 0)):=by
  have hnd : ∀ h : List AObj,h[0]? = some (Rd.rdC s ((0 : Nat) : Int) ((0 : Nat) : Int) ((0 : Nat) : Int) (-1)) → AC Tryd.prog 42 [.bp 0 0,.sc (.int .u8 (0 : UInt8).toNat)] h (Rd.NdsP s 0 (rdR s) 0 h) :=
    fun h hh=>nodes_all s hs 0 (s.length + 1) 0 0 0 0 h (.inl rfl) (Nat.zero_le _) (by omega) (by decide) (by decide) hh
  rw [mach_rd]
  have hq : ∀ q,rdR s = .error q → q ≤ s.length:=fun q e=>rnodes_er leafT s _ _ _ _ _ q (Nat.zero_le _) e
  cases hR : rdR s with
  | error q =>
    rw [hR] at hnd
    have hql:=hq q hR
    have hpc:=Rd.place_pc s q hql (by omega)
    refine PC.of_body Tryd.func10 Tryd.ntmps10 rfl rfl rfl ?_
    repeat' first
 | (refine m_box rfl rfl rfl ?_)
 | (apply p1 (hd:=rfl);case hop=>first|(apply D_move;rfl)|(apply D_assign;rfl)|(apply D_pc hpc;rfl;exact .same rfl (.same rfl .nil))|(apply D_int;rfl;rfl;rfl)|(apply D_ext;rfl;rfl)|exact D_build rfl|exact D_fldB rfl|(apply D_nilB;rfl))
 | refine W_seq ?_
 | refine W_region ?_
 | (refine idC ?_;refine cs rfl (fun _=>?_) (fun _=>?_))
 | refine WL_nil ?_
 | refine tn ?_
 | refine tr ?_
 | refine W_skip ?_
 | refine W_ret ?_
 | (refine idR ?_;first|refine rL4 rfl (by first|exact trivial|exact ⟨rfl,trivial⟩) (by first|exact ResO.tmp rfl|exact ResO.cellBA rfl rfl rfl|exact ResO.cellB1 rfl rfl rfl|exact ResO.cellEA rfl rfl|exact ResO.cellE1 rfl) (by first|exact ResO.tmp rfl|exact ResO.cellBA rfl rfl rfl|exact ResO.cellB1 rfl rfl rfl|exact ResO.cellEA rfl rfl|exact ResO.cellE1 rfl) (by first|exact ResO.tmp rfl|exact ResO.cellBA rfl rfl rfl|exact ResO.cellB1 rfl rfl rfl|exact ResO.cellEA rfl rfl|exact ResO.cellE1 rfl) (by first|exact ResO.tmp rfl|exact ResO.cellBA rfl rfl rfl|exact ResO.cellB1 rfl rfl rfl|exact ResO.cellEA rfl rfl|exact ResO.cellE1 rfl) ?_ ?_ ?_ ?_)
 | (refine idLd ?_;first|refine p1L (D_loadB1 rfl (by (repeat first|assumption|exact get_last|(refine get_last2 ?_;focus (simp;done))|apply get_set|apply get_app|(apply get_ne;focus omega)|(apply get_ne;focus (simp only [List.length_set,List.length_append,List.length_cons,List.length_nil];omega)));done) (by rfl)) rfl ?_)
 | refine Le.int ?_
 | (refine m_call (d:=14) (hnd _ rfl) rfl rfl rfl ?_;rintro v2 h2 ⟨hk2,⟨l,hw⟩,a',d',m',hp2⟩;refine WL_wkn 14 rfl hw ?_)
    all_goals first
      | rfl
      | (exfalso;omega)
      | exact Le.nil rfl
      | exact Le.of_eq rfl
      | trace_state
  | ok w =>
    obtain ⟨xs,i2,m2⟩:=w
    rw [hR] at hnd
    refine PC.of_body Tryd.func10 Tryd.ntmps10 rfl rfl rfl ?_
    repeat' first
 | (refine m_box rfl rfl rfl ?_)
 | (apply p1 (hd:=rfl);case hop=>first|(apply D_move;rfl)|(apply D_assign;rfl)|(apply D_int;rfl;rfl;rfl)|exact D_build rfl|exact D_fldB rfl|(apply D_nilB;rfl))
 | refine W_seq ?_
 | refine W_region ?_
 | (refine idC ?_;refine cs rfl (fun _=>?_) (fun _=>?_))
 | refine WL_nil ?_
 | refine tn ?_
 | refine W_skip ?_
 | refine W_ret ?_
 | (refine idR ?_;first|refine rL4 rfl (by first|exact trivial|exact ⟨rfl,trivial⟩) (by first|exact ResO.tmp rfl|exact ResO.cellBA rfl rfl rfl|exact ResO.cellB1 rfl rfl rfl|exact ResO.cellEA rfl rfl|exact ResO.cellE1 rfl) (by first|exact ResO.tmp rfl|exact ResO.cellBA rfl rfl rfl|exact ResO.cellB1 rfl rfl rfl|exact ResO.cellEA rfl rfl|exact ResO.cellE1 rfl) (by first|exact ResO.tmp rfl|exact ResO.cellBA rfl rfl rfl|exact ResO.cellB1 rfl rfl rfl|exact ResO.cellEA rfl rfl|exact ResO.cellE1 rfl) (by first|exact ResO.tmp rfl|exact ResO.cellBA rfl rfl rfl|exact ResO.cellB1 rfl rfl rfl|exact ResO.cellEA rfl rfl|exact ResO.cellE1 rfl) ?_ ?_ ?_ ?_)
 | (refine idLd ?_;first|refine p1L (D_loadB1 rfl (by (repeat first|assumption|exact get_last|(refine get_last2 ?_;focus (simp;done))|apply get_set|apply get_app|(apply get_ne;focus omega)|(apply get_ne;focus (simp only [List.length_set,List.length_append,List.length_cons,List.length_nil];omega)));done) (by rfl)) rfl ?_)
 | refine Le.int ?_
 | (refine m_call (d:=14) (hnd _ rfl) rfl rfl rfl ?_;rintro v2 h2 ⟨hk2,hw,hp2⟩;refine WL_wkn 14 rfl hw ?_)
    all_goals first
      | rfl
      | (exfalso;omega)
      | exact Le.of_eq rfl
      | (rename_i hh;exact absurd hh (by decide))
      | trace_state
set_option maxHeartbeats 8000000 in
theorem placed_pc [GlobF Tryd.prog] (N : Nat) : ∀ (l : List Nd),nszL l ≤ N → N < 9223372036854775807 → PC Tryd.prog 11 [.sl none 8 (ndCs l),.sl none 8 (ndCs l)] (.sc (.bool true)):=by
  induction N with
  | zero =>
    intro l h _
    have : l = []:=List.length_eq_zero_iff.1 (by have:=nszL_len l;omega)
    subst this
    refine PC.of_body Tryd.func11 Tryd.ntmps11 rfl rfl rfl ?_
    repeat' first
 | (apply p1 (hd:=rfl);case hop=>first|(apply D_move;rfl)|(apply D_assign;rfl)|(apply D_int;rfl;rfl;rfl)|(apply D_len_sl;rfl))
 | refine W_seq ?_
 | refine W_region ?_
 | (refine idC ?_;refine cs rfl (fun _=>?_) (fun _=>?_))
 | refine WL_nil ?_
 | refine tn ?_
 | refine tr ?_
 | refine W_skip ?_
 | refine W_block ?_
 | refine W_ret ?_
 | (refine idR ?_;refine ret1 rfl rfl rfl ?_)
 | (refine Le.bool ?_)
    all_goals first
      | contradiction
      | skip
    refine W_rounds 1 ?_
    repeat' first
 | (refine cs rfl ?_ (fun _=>?_);focus (intro h;exfalso;revert h;decide))
 | (apply p1 (hd:=rfl);case hop=>first|(apply D_move;rfl)|(apply D_assign;rfl)|(apply D_int;rfl;rfl;rfl)|(apply D_len_sl;rfl))
 | refine W_seq ?_
 | refine W_region ?_
 | refine WL_nil ?_
 | refine tn ?_
 | refine te ?_
 | (refine idB ?_;refine bh rfl ?_)
 | refine W_exit ?_
 | refine W_ret ?_
 | (refine idR ?_;refine ret1 rfl rfl rfl ?_)
 | (refine Le.bool ?_)
    all_goals first
      | rfl
      | contradiction
  | succ N ih =>
    intro l h hN
    have hN2 : N < 9223372036854775806:=by omega
    clear hN
    have hlen:=nszL_len l
    have hcl:=ndCs_len l
    refine PC.of_body Tryd.func11 Tryd.ntmps11 rfl rfl rfl ?_
    repeat' first
 | (apply p1 (hd:=rfl);case hop=>first|(apply D_move;rfl)|(apply D_assign;rfl)|(apply D_int;rfl;rfl;rfl)|(apply D_len_sl;rfl))
 | refine W_seq ?_
 | refine W_region ?_
 | (refine idC ?_;refine cs rfl (fun _=>?_) (fun _=>?_))
 | refine WL_nil ?_
 | refine tn ?_
 | refine tr ?_
 | refine W_skip ?_
 | refine W_block ?_
 | refine W_ret ?_
 | (refine idR ?_;refine ret1 rfl rfl rfl ?_)
 | (refine Le.bool ?_)
    all_goals first
      | (exfalso;omega)
      | (exfalso;rename_i hh;exact Bool.noConfusion hh)
      | skip
    refine W_loopL (X:=Nat) (fun i=>[(0,.sl none 8 (ndCs l)),(1,.sl none 8 (ndCs l)),(5,.sc (.int .i64 (i : Int)))]) (fun _=>[])
      (fun i=>i ≤ l.length) (fun i=>l.length - i) 0 (Nat.zero_le _) ⟨rfl,rfl,rfl,trivial⟩ rfl ?_
    intro i hi
    by_cases hi1 : i < l.length
    · have hm:=nsz_mem (List.getElem_mem hi1)
      have he : (ndCs l)[(i : Int).toNat]? = some (ndC l[i]):=by rw [Int.toNat_natCast,ndCs_map,List.getElem?_map,List.getElem?_eq_getElem hi1];rfl
      generalize hx : l[i] = x at hm he
      obtain ⟨k,vk,vn,vs,sx,kids,ln,cl⟩:=x
      simp only [nsz] at hm
      unfold ndC at he
      have hk:=ih kids (by omega) (Nat.lt_succ_of_lt hN2)
      repeat' first
 | (apply p1 (hd:=rfl);case hop=>first|(apply D_move;rfl)|(apply D_assign;rfl)|(apply D_int;rfl;rfl;rfl)|(apply D_len_sl;rfl))
 | refine W_seq ?_
 | refine W_region ?_
 | (refine idC ?_;refine cs rfl (fun _=>?_) (fun _=>?_))
 | refine WL_nil ?_
 | refine tn ?_
 | refine te ?_
 | (refine idB ?_;refine bh rfl ?_)
 | refine W_skip ?_
 | refine W_block ?_
 | refine W_exit ?_
 | refine W_ret ?_
 | (refine idR ?_;refine ret1 rfl rfl rfl ?_)
 | (refine Le.bool ?_)
      rotate_left 1
      · rfl
      refine W_draw0 rfl ?_
      repeat' first
 | (apply d1 (hd:=rfl);case hop=>first|(apply D_move;rfl)|(apply D_assign;rfl)|exact D_idxE rfl rfl (Int.natCast_nonneg i) he|(apply D_pc hk;rfl;exact .same rfl (.same rfl .nil))|(apply D_load1;rfl)|(apply D_fld;rfl))
 | (refine WD_nil (by first|decide +kernel|kernel_rfl|rfl) ?_)
      refine tn ?_
      refine W_seq ?_
      refine W_draw0 rfl ?_
      repeat' first
 | (apply d1 (hd:=rfl);case hop=>first|(apply D_move;rfl)|exact D_idxE rfl rfl (Int.natCast_nonneg i) he|(apply D_load1;rfl)|(apply D_fld;rfl)|(apply D_pickT;rfl;rfl)|(apply D_pickF;rfl;rfl)|(apply D_int;rfl;rfl;rfl)|(apply D_str;rfl;rfl;rfl)|(apply D_not;rfl)|(apply D_loadA;rfl;rfl)|exact D_neA rfl rfl rfl rfl rfl rfl rfl)
 | (refine idDg ?_;first|refine dg0f rfl rfl rfl ?_|refine dgr rfl rfl ?_|refine dgs rfl rfl (fun _=>?_) (fun _=>?_))
 | (refine WD_nil (by first|decide +kernel|kernel_rfl|rfl) ?_)
      all_goals refine tn ?_
      repeat' first
 | (apply p1 (hd:=rfl);case hop=>first|(apply D_move;rfl)|(apply D_assign;rfl)|(apply D_int;rfl;rfl;rfl))
 | refine W_seq ?_
 | refine W_region ?_
 | (refine idC ?_;first|refine c1 rfl ?_|refine cs rfl (fun _=>?_) (fun _=>?_))
 | refine WL_nil ?_
 | refine tn ?_
 | refine tr ?_
 | refine br ?_
 | refine bn ?_
 | refine W_skip ?_
 | refine W_ret ?_
 | (refine idR ?_;refine ret1 rfl rfl rfl ?_)
 | (refine Le.bool ?_)
      all_goals first
        | exact ⟨rfl,i + 1,by omega,by omega,⟨rfl,rfl,ieq (wsucc i (by omega)),trivial⟩,rfl⟩
        | (exfalso;omega)
        | (exfalso;rename_i hh;exact hh rfl)
        | (exfalso;rename_i hh;exact Bool.noConfusion hh)
        | trace_state
    · repeat' first
 | refine cs rfl (fun hh=>absurd hh (by first|omega|decide)) (fun _=>?_)
 | (apply p1 (hd:=rfl);case hop=>first|(apply D_move;rfl)|(apply D_assign;rfl)|(apply D_int;rfl;rfl;rfl)|(apply D_len_sl;rfl))
 | refine W_seq ?_
 | refine W_region ?_
 | refine WL_nil ?_
 | refine tn ?_
 | refine te ?_
 | (refine idB ?_;refine bh rfl ?_)
 | refine W_exit ?_
 | refine W_ret ?_
 | (refine idR ?_;refine ret1 rfl rfl rfl ?_)
 | (refine Le.bool ?_)
      all_goals first
        | (exfalso;omega)
        | rfl
        | trace_state
set_option maxHeartbeats 4000000 in
theorem textParses_pc [GlobF Tryd.prog] (hg : MaxLenOK) (hpw : PowOK) (he : ErrsOK) (s : List UInt8) : PC Tryd.prog 3 [str s] (.sc (.bool true)):=by
  by_cases hs : s.length ≤ 20000
  · have h1:=parse_t hg hpw he s (by omega)
    have h2:=rparse_pc s (by omega)
    cases hR : mach leafT (toks s 1 1 false) [] [] 0 with
    | ok l =>
      have hw:=(within_ok leafT leafT_k s l hR).1
      have h3:=placed_pc 5000 l hw (by decide)
      rw [hR] at h1 h2
      unfold resV at h1 h2
      refine PC.of_body Tryd.func3 Tryd.ntmps3 rfl rfl rfl ?_
      repeat' first
 | refine cs rfl (fun hh=>absurd hh (by first|omega|decide)) (fun _=>?_)
 | (apply p1 (hd:=rfl);case hop=>first|(apply D_move;rfl)|(apply D_assign;rfl)|(apply D_pc h1;rfl;exact .same rfl .nil)|(apply D_pc h2;rfl;exact .same rfl .nil)|(apply D_pc h3;rfl;exact .same rfl (.same rfl .nil))|(apply D_pickT;rfl;rfl)|(apply D_pickF;rfl;rfl)|(apply D_int;rfl;rfl;rfl)|(apply D_len_str;rfl)|(apply D_ext;rfl;rfl))
 | refine W_seq ?_
 | refine W_region ?_
 | refine WL_nil ?_
 | (refine idG ?_;first|refine g0t rfl rfl rfl ?_|refine gr rfl rfl ?_|refine gs rfl rfl (fun _=>?_) (fun _=>?_))
 | refine tn ?_
 | refine W_skip ?_
 | refine W_ret ?_
 | (refine idR ?_;refine ret1 rfl rfl rfl ?_)
 | (refine Le.bool ?_)
      all_goals first
        | rfl
        | (exfalso;rename_i hh;exact hh rfl)
        | (exfalso;omega)
        | trace_state
    | err ln cl =>
      have h3:=placed_pc 5000 [] (by simp [nszL]) (by decide)
      rw [hR] at h1 h2
      unfold resV at h1 h2
      unfold ndCs at h3
      refine PC.of_body Tryd.func3 Tryd.ntmps3 rfl rfl rfl ?_
      repeat' first
 | refine cs rfl (fun hh=>absurd hh (by first|omega|decide)) (fun _=>?_)
 | (apply p1 (hd:=rfl);case hop=>first|(apply D_move;rfl)|(apply D_assign;rfl)|(apply D_pc h1;rfl;exact .same rfl .nil)|(apply D_pc h2;rfl;exact .same rfl .nil)|(apply D_pc h3;rfl;exact .same rfl (.same rfl .nil))|(apply D_pickT;rfl;rfl)|(apply D_pickF;rfl;rfl)|(apply D_int;rfl;rfl;rfl)|(apply D_len_str;rfl)|(apply D_ext;rfl;rfl))
 | refine W_seq ?_
 | refine W_region ?_
 | refine WL_nil ?_
 | (refine idG ?_;first|refine g0t rfl rfl rfl ?_|refine gr rfl rfl ?_|refine gs rfl rfl (fun _=>?_) (fun _=>?_))
 | refine tn ?_
 | refine W_skip ?_
 | refine W_ret ?_
 | (refine idR ?_;refine ret1 rfl rfl rfl ?_)
 | (refine Le.bool ?_)
      all_goals first
        | rfl
        | (exfalso;rename_i hh;exact hh rfl)
        | (exfalso;omega)
        | trace_state
  · refine PC.of_body Tryd.func3 Tryd.ntmps3 rfl rfl rfl ?_
    repeat' first
 | refine cs rfl (fun _=>?_) (fun hh=>absurd hh (by first|omega|decide))
 | (apply p1 (hd:=rfl);case hop=>first|(apply D_move;rfl)|(apply D_assign;rfl)|(apply D_int;rfl;rfl;rfl)|(apply D_len_str;rfl))
 | refine W_seq ?_
 | refine W_region ?_
 | refine WL_nil ?_
 | refine tn ?_
 | refine tr ?_
 | refine W_ret ?_
 | (refine idR ?_;refine ret1 rfl rfl rfl ?_)
 | (refine Le.bool ?_)
    all_goals first
      | rfl
      | (exfalso;rename_i hh;exact hh rfl)
      | (exfalso;omega)
      | trace_state
end Go.Proofs

namespace Go.Proofs
open Go.AL
instance : Opn Tryd.prog 2 (fun n : Int=>[.sc (.int .i64 n)]) (fun n : Int=>(Lit.int .i64 n).wf = true):=opn_int Tryd.underlying2
instance : Opn Tryd.prog 3 (fun n : Int=>[.sc (.int .i64 n)]) (fun n : Int=>(Lit.int .i64 n).wf = true):=opn_int Tryd.underlying3
instance : Opn Tryd.prog 4 (fun b : Bool=>[.sc (.bool b)]) (fun _ : Bool=>True):=opn_bool Tryd.underlying4
instance : Opn Tryd.prog 5 (fun n : Int=>[.sc (.int .u8 n)]) (fun n : Int=>(Lit.int .u8 n).wf = true):=opn_int Tryd.underlying5
instance : Opn Tryd.prog 6 (fun n : Int=>[.sc (.int .u8 n)]) (fun n : Int=>(Lit.int .u8 n).wf = true):=opn_int Tryd.underlying6
instance : Opn Tryd.prog 9 (fun l : List UInt8=>[str l]) (fun l : List UInt8=>l.length ≤ maxLen):=opn_str Tryd.underlying9
instance : Opn Tryd.prog 10 (fun l : List UInt8=>[str l]) (fun l : List UInt8=>l.length ≤ maxLen):=opn_str Tryd.underlying10
instance : Opn Tryd.prog 11 (fun l : List UInt8=>[str l]) (fun l : List UInt8=>l.length ≤ maxLen):=opn_str Tryd.underlying11
instance : Opn Tryd.prog 12 (fun n : Int=>[.sc (.int .u64 n)]) (fun n : Int=>(Lit.int .u64 n).wf = true):=opn_int Tryd.underlying12
instance : Opn Tryd.prog 21 (fun n : Int=>[.sc (.int .i32 n)]) (fun n : Int=>(Lit.int .i32 n).wf = true):=opn_int Tryd.underlying21
instance : Opn Tryd.prog 23 (fun n : Int=>[.sc (.int .i64 n)]) (fun n : Int=>(Lit.int .i64 n).wf = true):=opn_int Tryd.underlying23
instance : Opn Tryd.prog 147 (fun n : Int=>[.sc (.int .u64 n)]) (fun n : Int=>(Lit.int .u64 n).wf = true):=opn_int Tryd.underlying147
instance : Opn Tryd.prog 166 (fun n : Int=>[.sc (.int .u32 n)]) (fun n : Int=>(Lit.int .u32 n).wf = true):=opn_int Tryd.underlying166
instance : Opn Tryd.prog 182 (fun n : Int=>[.sc (.int .i64 n)]) (fun n : Int=>(Lit.int .i64 n).wf = true):=opn_int Tryd.underlying182
instance : Opn Tryd.prog 183 (fun n : Int=>[.sc (.int .u64 n)]) (fun n : Int=>(Lit.int .u64 n).wf = true):=opn_int Tryd.underlying183
instance : Opn Tryd.prog 214 (fun n : Int=>[.sc (.int .u8 n)]) (fun n : Int=>(Lit.int .u8 n).wf = true):=opn_int Tryd.underlying214
instance : Opn Tryd.prog 215 (fun n : Int=>[.sc (.int .u8 n)]) (fun n : Int=>(Lit.int .u8 n).wf = true):=opn_int Tryd.underlying215
instance : Opn Tryd.prog 217 (fun n : Int=>[.sc (.int .i32 n)]) (fun n : Int=>(Lit.int .i32 n).wf = true):=opn_int Tryd.underlying217
instance : Opn Tryd.prog 218 (fun n : Int=>[.sc (.int .i32 n)]) (fun n : Int=>(Lit.int .i32 n).wf = true):=opn_int Tryd.underlying218
end Go.Proofs

namespace Go.AL
open Go.Lib
end Go.AL

namespace Go.AL
open Go.Lib
theorem laid_one {P : Program} {l : List (String × DataW Unit)} {w : World} (keep : String × DataW Unit → Bool) {name : String} {d : DataW Unit} (h : laidMetH P l w) (hf : l.filter keep = [(name,d)]) (hn : d.handleName?.isNone = true) : laidMet P [(name,d)] w:=by
  have h1:=h.filter keep
  rw [hf,Go.MakeChecks.laidMetH_plain _ _ _ (by simp [hn])] at h1
  exact h1
theorem obj_of_tab {P : Program} {W : World} {name : String} {k : IntKind} {zs : List Int} {g : Nat} (hg : P.globalNamed name = some g) (h : TabIs P W name k zs) : ∃ t fz,W.heap[g]? = some (.cells (zs.map (Value.int k)).toArray t fz):=by
  unfold TabIs World.var? at h
  rw [hg] at h
  simp only [Option.bind_some] at h
  split at h
  · rename_i cs t fz hh
    cases h
    exact ⟨t,fz,hh⟩
  · cases h
theorem cell_of_iface {P : Program} {W : World} {name tn : String} {d : DataW Unit} {rest : List (String × DataW Unit)} {g : Nat} {t : TypeId} {ms : Array (String × TypeId)}
    (hg : P.globalNamed name = some g) (hty : (P.globals[g]?).map (·.type) = some t) (ht : P.underlying t = some (.interface ms))
    (h : laidMet P ((name,.iface tn d) :: rest) W) : ∃ u v,W.cell? ⟨g,0,none⟩ = some (.iface u v):=by
  obtain ⟨ps,⟨g',t',cs,fuel,p,q,hg',ht',hvar,hd,_,_⟩,_⟩:=h
  obtain rfl:=Option.some.inj (hg.symm.trans hg')
  obtain rfl:=Option.some.inj (hty.symm.trans ht')
  cases fuel with
  | zero=>simp [DataW.trod] at hd
  | succ fuel =>
    have hcs : ∃ u v,cs = #[.iface u v]:=by
      obtain ⟨l⟩:=cs
      simp only at hd
      unfold DataW.trod at hd
      rw [ht] at hd
      split at hd <;> simp_all
    obtain ⟨u,v,rfl⟩:=hcs
    exact ⟨u,v,by have:=World.var?_cell hg hvar 0;simpa using this⟩
end Go.AL
