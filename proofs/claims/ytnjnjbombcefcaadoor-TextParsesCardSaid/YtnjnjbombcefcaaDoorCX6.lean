/- Contracts of the document's reader of texts: nodes, by descent. -/
import Derived.Test.YtnjnjbombcefcaaDoorCX5
import Derived.Test.YtnjnjbombcefcaaDoorCX0
import Derived.Test.YtnjnjbombcefcaaDoorOps48
set_option linter.all false
namespace Go.Proofs.Rd
open Go.AL Go.Txt
attribute [local irreducible] Go.AL.W Go.AL.WL Go.AL.WD Go.AL.POp Go.AL.PPOp Go.AL.POpS Go.AL.PC Go.AL.AC Go.AL.YW Go.AL.Ret Go.AL.Le Go.AL.thn Go.AL.inBlk Go.AL.scp
abbrev nilV : AV:=.sc (.slice none 0 0)
abbrev tN : Nat:=35
def eOf (eb : UInt8) : Option UInt8:=if eb = 0 then none else some eb
structure Keep (p : Nat) (h h' : List AObj) : Prop where
  len : h.length ≤ h'.length
  fr : ∀ i,i < h.length → i ≠ p → h'[i]? = h[i]?
theorem Keep.refl (p : Nat) (h : List AObj) : Keep p h h:=⟨Nat.le_refl _,fun _ _ _=>rfl⟩
theorem Keep.trans {p : Nat} {h h' h'' : List AObj} (a : Keep p h h') (b : Keep p h' h'') : Keep p h h'':=⟨Nat.le_trans a.len b.len,fun i hi hp=>(b.fr i (Nat.lt_of_lt_of_le hi a.len) hp).trans (a.fr i hi hp)⟩
def NdsP (s : List UInt8) (p : Nat) (R : RR) (d : Nat) (h : List AObj) (v : AV) (h' : List AObj) : Prop :=
  Keep p h h' ∧ match R with
  | .error q=>(∃ l,Wkn v (.sl none 8 (ndCs l))) ∧ ∃ a' d' m' : Int,h'[p]? = some (rdC s a' d' m' (q : Int))
  | .ok (xs,i2,m2)=>Wkn v (.sl none 8 (ndCs xs)) ∧ h'[p]? = some (rdC s (i2 : Int) (d : Int) (m2 : Int) (-1))
def NdP (s : List UInt8) (p : Nat) (R : Except Nat (Nd × Nat × Nat)) (d : Nat) (h : List AObj) (v : AV) (h' : List AObj) : Prop :=
  Keep p h h' ∧ match R with
  | .error q=>(∃ x,Wkn v (.ag (ndC x))) ∧ ∃ a' d' m' : Int,h'[p]? = some (rdC s a' d' m' (q : Int))
  | .ok (x,i2,m2)=>Wkn v (.ag (ndC x)) ∧ h'[p]? = some (rdC s (i2 : Int) (d : Int) (m2 : Int) (-1))
def NodesOK [GlobF Tryd.prog] (s : List UInt8) (p f : Nat) : Prop:=∀ (eb : UInt8) (i d m : Nat) (h : List AObj),(eb = 0 ∨ eb ∈ cls) → i ≤ s.length → s.length - i < f → d ≤ 51 → m ≤ 5000 → h[p]? = some (rdC s (i : Int) (d : Int) (m : Int) (-1)) →
  AC Tryd.prog 42 [.bp p 0,.sc (.int .u8 eb.toNat)] h (NdsP s p (rnodes leafT s f (eOf eb) i d m) d h)
def NodeOK [GlobF Tryd.prog] (s : List UInt8) (p f : Nat) : Prop:=∀ (i d m : Nat) (h : List AObj) (hi : i < s.length),s[i] ∉ cls → s.length - i ≤ f → d ≤ 51 → m ≤ 5000 → h[p]? = some (rdC s (i : Int) (d : Int) (m : Int) (-1)) →
  AC Tryd.prog 89 [.bp p 0,.sc (.int .u8 s[i].toNat)] h (NdP s p (rnode leafT s f s[i] i d m) d h)
structure RS where
  acc : List Nd
  i : Nat
  m : Nat
  f : Nat
  er : Option Nat
  h : List AObj
def relR (T : RR) (acc : List Nd) (R : RR) : Prop:=T = match R with
  | .error q=>.error q
  | .ok (xs,i3,m3)=>.ok (acc ++ xs,i3,m3)
theorem u8e {a b : UInt8} : (a.toNat : Int) = (b.toNat : Int) ↔ a = b:=by rw [← UInt8.toNat_inj];omega
set_option maxHeartbeats 16000000 in
theorem nodes_ac [GlobF Tryd.prog] (s : List UInt8) (hs : s.length < 268435456) (p F : Nat) (hnd : ∀ f,f < F → NodeOK s p f) : NodesOK s p F:=by
  intro eb i0 d m0 h0 heb hi0 hF hd hm0 hp0
  have hp0l:=(List.getElem?_eq_some_iff.1 hp0).1
  generalize hT : rnodes leafT s F (eOf eb) i0 d m0 = T
  refine AC.of_body Tryd.func42 Tryd.ntmps42 rfl rfl rfl ?_
  repeat' first
 | (apply p1 (hd:=rfl);case hop=>first|(apply D_assign;rfl))
 | refine W_seq ?_
 | refine W_region ?_
 | refine WL_nil ?_
 | refine tn ?_
 | (refine W_block ?_)
  refine W_adopt 5 8 tN rfl ?_
  refine W_loopL (X:=RS) (fun x=>[(0,.bp p 0),(1,.sc (.int .u8 eb.toNat)),(4,nilV),(5,.sl (some h0.length) 8 (ndCs x.acc))]) (fun x=>x.h)
    (fun x=>Keep p h0 x.h ∧ h0.length < x.h.length ∧ x.h[h0.length]? = some (.tail x.acc.length 8 tN) ∧ x.acc.length ≤ s.length ∧ match x.er with
      | none=>x.acc.length ≤ x.i ∧ x.i ≤ s.length ∧ s.length - x.i < x.f ∧ x.f ≤ F ∧ x.m ≤ 5000 ∧ x.h[p]? = some (rdC s (x.i : Int) (d : Int) (x.m : Int) (-1)) ∧ relR T x.acc (rnodes leafT s x.f (eOf eb) x.i d x.m)
      | some q=>T = .error q ∧ ∃ a' d' m' : Int,x.h[p]? = some (rdC s a' d' m' (q : Int)))
    (fun x=>match x.er with|none=>x.f + 1|some _=>0) ⟨[],i0,m0,F,none,h0 ++ [.tail 0 8 tN]⟩ ⟨⟨by simp,fun i hi _=>List.getElem?_append_left hi⟩,by simp,by simp,Nat.zero_le _,Nat.zero_le _,hi0,hF,Nat.le_refl _,hm0,get_app hp0,by
      show T = _
      rw [hT]
      cases T with
      | error q=>rfl
      | ok x=>rfl⟩ ⟨rfl,rfl,rfl,by simp [ndCs,lookO],trivial⟩ rfl ?_
  rintro ⟨acc,i,m,f,er,h⟩ ⟨hK,hhl,htl,hal,hst⟩
  have hpt : p ≠ h0.length:=by omega
  simp only at hK hhl htl hal hst ⊢
  cases er with
  | some q =>
    obtain ⟨hTq,a',d',m',hp⟩:=hst
    repeat' first
 | (apply p1 (hd:=rfl);case hop=>first|(apply D_move;rfl)|(apply D_assign;rfl)|(apply D_int;rfl;rfl;rfl)|exact D_fldB rfl|(apply D_nilB;rfl))
 | refine W_seq ?_
 | refine W_region ?_
 | (refine idC ?_;refine cs rfl (fun _=>?_) (fun _=>?_))
 | refine WL_nil ?_
 | refine tn ?_
 | refine te ?_
 | (refine idB ?_;refine bh rfl ?_)
 | refine W_skip ?_
 | refine W_block ?_
 | refine W_exit ?_
 | refine W_ret ?_
 | (refine idLd ?_;first|refine p1L (D_loadB1 rfl (by (repeat first|assumption|exact get_last|(refine get_last2 ?_;focus (simp;done))|apply get_set|apply get_app|(apply get_ne;focus omega)|(apply get_ne;focus (simp only [List.length_set,List.length_append,List.length_cons,List.length_nil];omega)));done) (by rfl)) rfl ?_)
    all_goals first
      | (exfalso;omega)
      | skip
    rw [hTq]
    exact retK1 (.inl rfl) rfl rfl (ResO.tmp rfl) ⟨hK,⟨[],Wkn.nil⟩,a',d',m',hp⟩
  | none =>
    obtain ⟨ha,hi,hf,hfF,hm,hp,hrel⟩:=hst
    obtain ⟨f,rfl⟩ : ∃ f0,f = f0 + 1:=⟨f - 1,by omega⟩
    have hkl:=skipL_le _ (s.drop i) (Nat.le_refl _)
    rw [List.length_drop] at hkl
    have hsk:=skip_ac s (by omega) p i d m (-1) hi hp
    have hgo : (0 : Int) ≤ -1 → False:=by decide
    have hK1 : ∀ x : AObj,Keep p h0 (h.set p x):=fun x=>⟨by rw [List.length_set];exact hK.len,fun k hk hkp=>(List.getElem?_set_ne (Ne.symm hkp)).trans (hK.fr k hk hkp)⟩
    have hp1 : (h.set p (rdC s ((i + skipL (s.drop i) : Nat) : Int) (d : Int) (m : Int) (-1)))[p]? = some (rdC s ((i + skipL (s.drop i) : Nat) : Int) (d : Int) (m : Int) (-1)):=get_set hp
    have htl1 : ∀ x : AObj,(h.set p x)[h0.length]? = some (.tail acc.length 8 tN):=fun x=>get_ne hpt htl
    rcases Nat.lt_or_ge (i + skipL (s.drop i)) s.length with hj|hj
    · have hcx:=in_pc [41,93,125] (s[i + skipL (s.drop i)]) (by decide)
      by_cases hc : s[i + skipL (s.drop i)] ∈ cls
      · have hrr:=rnodes_cl (leaf:=leafT) (f:=f) (e:=eOf eb) (deep:=d) (many:=m) hj hc
        rw [dP_t.mpr hc] at hcx
        by_cases heq : s[i + skipL (s.drop i)] = eb
        · have hTok : T = .ok (acc,i + skipL (s.drop i) + 1,m):=by
            rw [hrel,hrr,if_pos]
            · simp
            · unfold eOf
              rw [if_neg,heq]
              intro e0;rw [heq,e0] at hc;revert hc;decide
          have hw : IntKind.i64.wrap (((i + skipL (s.drop i) : Nat) : Int) + 1) = ((i + skipL (s.drop i) + 1 : Nat) : Int):=wsucc _ (by omega)
          have hee : (s[i + skipL (s.drop i)].toNat : Int) = (eb.toNat : Int):=u8e.2 heq
          generalize hjj : i + skipL (s.drop i) = j at *
          repeat' first
 | (apply p1 (hd:=rfl);case hop=>first|(apply D_move;rfl)|(apply D_assign;rfl)|(apply D_pc hcx;rfl;exact .same rfl (.same rfl .nil))|exact D_sc (D_int rfl rfl rfl) (congrArg (Value.int IntKind.i64) hw)|(apply D_int;rfl;rfl;rfl)|exact D_fldB rfl|(apply D_nilB;rfl))
 | refine W_seq ?_
 | refine W_region ?_
 | (refine idC ?_;first|refine c1 rfl ?_|refine cs rfl (fun _=>?_) (fun _=>?_))
 | refine WL_nil ?_
 | refine tn ?_
 | refine tr ?_
 | refine br ?_
 | refine te ?_
 | (refine idB ?_;refine bh rfl ?_)
 | refine W_skip ?_
 | refine W_block ?_
 | refine W_exit ?_
 | refine W_ret ?_
 | (refine idLd ?_;first|refine p1L (D_loadB1 rfl (by (repeat first|assumption|exact get_last|(refine get_last2 ?_;focus (simp;done))|apply get_set|apply get_app|(apply get_ne;focus omega)|(apply get_ne;focus (simp only [List.length_set,List.length_append,List.length_cons,List.length_nil];omega)));done) (by rfl)) rfl ?_)
 | (refine idS ?_;first|refine pS (S_store rfl rfl rfl (by (repeat first|assumption|exact get_last|(refine get_last2 ?_;focus (simp;done))|apply get_set|apply get_app|(apply get_ne;focus omega)|(apply get_ne;focus (simp only [List.length_set,List.length_append,List.length_cons,List.length_nil];omega)));done) (by rfl) (by rfl) (by rfl)) ?_)
 | (refine m_call (d:=14) hsk rfl rfl rfl ?_;rintro _ _ rfl)
 | (refine idW ?_;refine W_draw0 rfl ?_)
 | (apply d1 (hd:=rfl);case hop=>first|(apply D_move;rfl)|(apply D_assign;rfl)|(apply D_int;rfl;rfl;rfl)|(apply D_len_str;rfl)|(apply D_idxSn;rfl;rfl;(first|omega|(simp;done)))|exact D_fldB rfl|(apply D_nilB;rfl))
 | (refine idDn ?_;first|refine dL _ (fun hp' hs=>D_loadB1 rfl (hs.trans (by (repeat first|assumption|exact get_last|(refine get_last2 ?_;focus (simp;done))|apply get_set|apply get_app|(apply get_ne;focus omega)|(apply get_ne;focus (simp only [List.length_set,List.length_append,List.length_cons,List.length_nil];omega)));done)) (by rfl)) rfl ?_)
 | (refine WD_nil (by first|decide +kernel|kernel_rfl|rfl) ?_)
          all_goals first
            | (exfalso;omega)
            | (exfalso;rename_i hh;exact Bool.noConfusion hh)
            | skip
          rw [hTok]
          refine retK1 (.inl rfl) rfl rfl (ResO.tmp rfl) ⟨?_,Wkn.sl,?_⟩
          · rw [List.set_set];exact hK1 _
          · rw [List.set_set];exact get_set hp
        · have hTer : T = .error (i + skipL (s.drop i)):=by
            rw [hrel,hrr,if_neg]
            unfold eOf
            split
            · exact fun e=>nomatch e
            · intro e;exact heq (Option.some.inj e).symm
          have hee : ¬ (s[i + skipL (s.drop i)].toNat : Int) = (eb.toNat : Int):=fun e=>heq (u8e.1 e)
          generalize hjj : i + skipL (s.drop i) = j at *
          repeat' first
 | (apply p1 (hd:=rfl);case hop=>first|(apply D_move;rfl)|(apply D_assign;rfl)|(apply D_pc hcx;rfl;exact .same rfl (.same rfl .nil))|(apply D_int;rfl;rfl;rfl)|exact D_fldB rfl|(apply D_nilB;rfl))
 | refine W_seq ?_
 | refine W_region ?_
 | (refine idC ?_;first|refine c1 rfl ?_|refine cs rfl (fun _=>?_) (fun _=>?_))
 | refine WL_nil ?_
 | refine tn ?_
 | refine tr ?_
 | refine br ?_
 | refine te ?_
 | (refine idB ?_;refine bh rfl ?_)
 | refine W_skip ?_
 | refine W_block ?_
 | refine W_exit ?_
 | refine W_ret ?_
 | (refine idLd ?_;first|refine p1L (D_loadB1 rfl (by (repeat first|assumption|exact get_last|(refine get_last2 ?_;focus (simp;done))|apply get_set|apply get_app|(apply get_ne;focus omega)|(apply get_ne;focus (simp only [List.length_set,List.length_append,List.length_cons,List.length_nil];omega)));done) (by rfl)) rfl ?_)
 | (refine idS ?_;first|refine pS (S_store rfl rfl rfl (by (repeat first|assumption|exact get_last|(refine get_last2 ?_;focus (simp;done))|apply get_set|apply get_app|(apply get_ne;focus omega)|(apply get_ne;focus (simp only [List.length_set,List.length_append,List.length_cons,List.length_nil];omega)));done) (by rfl) (by rfl) (by rfl)) ?_)
 | (refine m_call (d:=14) hsk rfl rfl rfl ?_;rintro _ _ rfl)
 | (refine idW ?_;refine W_draw0 rfl ?_)
 | (apply d1 (hd:=rfl);case hop=>first|(apply D_move;rfl)|(apply D_assign;rfl)|(apply D_int;rfl;rfl;rfl)|(apply D_len_str;rfl)|(apply D_idxSn;rfl;rfl;(first|omega|(simp;done)))|exact D_fldB rfl|(apply D_nilB;rfl))
 | (refine idDn ?_;first|refine dL _ (fun hp' hs=>D_loadB1 rfl (hs.trans (by (repeat first|assumption|exact get_last|(refine get_last2 ?_;focus (simp;done))|apply get_set|apply get_app|(apply get_ne;focus omega)|(apply get_ne;focus (simp only [List.length_set,List.length_append,List.length_cons,List.length_nil];omega)));done)) (by rfl)) rfl ?_)
 | (refine WD_nil (by first|decide +kernel|kernel_rfl|rfl) ?_)
          all_goals first
            | (exfalso;omega)
            | (exfalso;rename_i hh;exact Bool.noConfusion hh)
            | skip
          rw [hTer]
          refine retK1 (.inl rfl) rfl rfl (ResO.tmp rfl) ⟨?_,⟨[],Wkn.nil⟩,(j : Int),(d : Int),(m : Int),?_⟩
          · rw [List.set_set];exact hK1 _
          · rw [List.set_set];exact get_set hp
      · have hrr:=rnodes_nd (leaf:=leafT) (f:=f) (e:=eOf eb) (deep:=d) (many:=m) hj hc
        rw [dP_f.mpr hc] at hcx
        have hnode:=hnd f (by omega) (i + skipL (s.drop i)) d m _ hj hc (by omega) hd hm hp1
        cases hR : rnode leafT s f s[i + skipL (s.drop i)] (i + skipL (s.drop i)) d m with
        | error q =>
          have hTer : T = .error q:=by rw [hrel,hrr,hR]
          generalize hjj : i + skipL (s.drop i) = j at *
          repeat' first
 | (apply p1 (hd:=rfl);case hop=>first|(apply D_move;rfl)|(apply D_assign;rfl)|(apply D_pc hcx;rfl;exact .same rfl (.same rfl .nil))|(apply D_int;rfl;rfl;rfl)|(apply D_lit;rfl;rfl;rfl;rfl)|exact D_fldB rfl|(apply D_nilB;rfl))
 | refine W_seq ?_
 | refine W_region ?_
 | (refine idC ?_;first|refine c0 rfl ?_|refine cs rfl (fun _=>?_) (fun _=>?_))
 | refine WL_nil ?_
 | refine tn ?_
 | refine tr ?_
 | refine br ?_
 | refine bn ?_
 | refine te ?_
 | (refine idB ?_;refine bh rfl ?_)
 | refine W_skip ?_
 | refine W_block ?_
 | refine W_exit ?_
 | refine W_ret ?_
 | (refine idLd ?_;first|refine p1L (D_loadB1 rfl (by (repeat first|assumption|exact get_last|(refine get_last2 ?_;focus (simp;done))|apply get_set|apply get_app|(apply get_ne;focus omega)|(apply get_ne;focus (simp only [List.length_set,List.length_append,List.length_cons,List.length_nil];omega)));done) (by rfl)) rfl ?_|refine p1L (D_loadBA rfl (by (repeat first|assumption|exact get_last|(refine get_last2 ?_;focus (simp;done))|apply get_set|apply get_app|(apply get_ne;focus omega)|(apply get_ne;focus (simp only [List.length_set,List.length_append,List.length_cons,List.length_nil];omega)));done) (by rfl)) rfl ?_)
 | (refine idA ?_;refine m_alloc rfl ?_)
 | (refine idS ?_;first|refine pS (S_store rfl rfl rfl (by (repeat first|assumption|exact get_last|(refine get_last2 ?_;focus (simp;done))|apply get_set|apply get_app|(apply get_ne;focus omega)|(apply get_ne;focus (simp only [List.length_set,List.length_append,List.length_cons,List.length_nil];omega)));done) (by rfl) (by rfl) (by rfl)) ?_)
 | (refine m_call (d:=14) hsk rfl rfl rfl ?_;rintro _ _ rfl)
 | (refine m_call (d:=66) hnode rfl rfl rfl ?_;rw [hR];rintro v2 h2 ⟨hk2,⟨x,hx⟩,a',d',m',hp2⟩;obtain ⟨x1,x2,x3,x4,x5,x6,x7,x8⟩:=x;unfold ndC at hx;refine WL_wkn 66 rfl hx ?_;have hp2l:=(List.getElem?_eq_some_iff.1 hp2).1)
 | (refine idW ?_;refine W_draw0 rfl ?_)
 | (apply d1 (hd:=rfl);case hop=>first|(apply D_move;rfl)|(apply D_assign;rfl)|(apply D_int;rfl;rfl;rfl)|(apply D_len_str;rfl)|(apply D_idxSn;rfl;rfl;(first|omega|(simp;done)))|exact D_fldB rfl|(apply D_nilB;rfl))
 | (refine idDn ?_;first|refine dL _ (fun hp' hs=>D_loadB1 rfl (hs.trans (by (repeat first|assumption|exact get_last|(refine get_last2 ?_;focus (simp;done))|apply get_set|apply get_app|(apply get_ne;focus omega)|(apply get_ne;focus (simp only [List.length_set,List.length_append,List.length_cons,List.length_nil];omega)));done)) (by rfl)) rfl ?_)
 | (refine WD_nil (by first|decide +kernel|kernel_rfl|rfl) ?_)
          all_goals first
            | (exfalso;omega)
            | skip
          have hk3 : Keep p h0 h2:=(hK1 _).trans hk2
          have ht2 : h2[h0.length]? = some (.tail acc.length 8 tN):=(hk2.fr _ (by rw [List.length_set];exact hhl) (Ne.symm hpt)).trans (htl1 _)
          refine ⟨rfl,⟨acc,0,0,0,some q,_⟩,⟨?_,?_,?_,hal,hTer,a',d',m',?_⟩,Nat.succ_pos _,⟨rfl,rfl,rfl,rfl,trivial⟩,rfl⟩
          · rw [set_lastO];exact ⟨by rw [List.length_append];exact Nat.le_trans hk3.len (Nat.le_add_right _ _),fun k hk hkp=>(List.getElem?_append_left (Nat.lt_of_lt_of_le hk hk3.len)).trans (hk3.fr k hk hkp)⟩
          · rw [set_lastO,List.length_append];exact Nat.lt_of_lt_of_le (List.getElem?_eq_some_iff.1 ht2).1 (Nat.le_add_right _ _)
          · rw [set_lastO];exact get_app ht2
          · rw [set_lastO];exact get_app hp2
        | ok w =>
          obtain ⟨x,i2,m2⟩:=w
          obtain ⟨hl1,hl2⟩:=rnode_le hj hR
          have hm2:=rnode_m hR
          have hrel2 : relR T (acc ++ [x]) (rnodes leafT s f (eOf eb) i2 d m2):=by
            unfold relR at hrel ⊢
            rw [hrel,hrr,hR]
            simp only
            cases rnodes leafT s f (eOf eb) i2 d m2 with
            | error q=>rfl
            | ok y=>obtain ⟨ys,i3,m3⟩:=y;simp
          have hal2 : acc.length + 1 ≤ i2:=by omega
          have hacl : (ndCs acc).length = acc.length:=ndCs_len _
          obtain ⟨x1,x2,x3,x4,x5,x6,x7,x8⟩:=x
          generalize hjj : i + skipL (s.drop i) = j at *
          have hnx : ndCs (acc ++ [Nd.mk x1 x2 x3 x4 x5 x6 x7 x8]) = ndCs acc ++ [[i64 x1,i64 x2,i64 x3,str x4,str x5,.sl none 8 (ndCs x6),i64 x7,i64 x8]]:=by rw [ndCs_app];simp [ndCs,ndC]
          repeat' first
 | (refine m_app (d:=75) (els:=ndCs acc) (els':=[[i64 x1,i64 x2,i64 x3,str x4,str x5,.sl none 8 (ndCs x6),i64 x7,i64 x8]]) rfl rfl ht2 hacl.symm rfl rfl (by simp only [List.length_cons,List.length_nil];omega) (by simp only [List.length_cons,List.length_nil];omega) rfl ?_)
 | (apply p1 (hd:=rfl);case hop=>first|(apply D_move;rfl)|(apply D_assign;rfl)|(apply D_pc hcx;rfl;exact .same rfl (.same rfl .nil))|exact D_eqv2 (v':=.ag [i64 x1,i64 x2,i64 x3,str x4,str x5,.sl none 8 (ndCs x6),i64 x7,i64 x8]) (D_loadA rfl rfl) rfl|(apply D_int;rfl;rfl;rfl)|(apply D_lit;rfl;rfl;rfl;rfl)|exact D_fldB rfl|(apply D_nilB;rfl))
 | refine W_seq ?_
 | refine W_region ?_
 | (refine idC ?_;first|refine c0 rfl ?_|refine cs rfl (fun _=>?_) (fun _=>?_))
 | refine WL_nil ?_
 | refine tn ?_
 | refine tr ?_
 | refine br ?_
 | refine bn ?_
 | refine te ?_
 | (refine idB ?_;refine bh rfl ?_)
 | refine W_skip ?_
 | refine W_block ?_
 | refine W_exit ?_
 | refine W_ret ?_
 | (refine idLd ?_;first|refine p1L (D_loadB1 rfl (by (repeat first|assumption|exact get_last|(refine get_last2 ?_;focus (simp;done))|apply get_set|apply get_app|(apply get_ne;focus omega)|(apply get_ne;focus (simp only [List.length_set,List.length_append,List.length_cons,List.length_nil];omega)));done) (by rfl)) rfl ?_)
 | (refine idA ?_;refine m_var rfl rfl rfl rfl rfl rfl rfl ?_)
 | (refine idS ?_;first|refine pS (S_store rfl rfl rfl (by (repeat first|assumption|exact get_last|(refine get_last2 ?_;focus (simp;done))|apply get_set|apply get_app|(apply get_ne;focus omega)|(apply get_ne;focus (simp only [List.length_set,List.length_append,List.length_cons,List.length_nil];omega)));done) (by rfl) (by rfl) (by rfl)) ?_)
 | (refine m_call (d:=14) hsk rfl rfl rfl ?_;rintro _ _ rfl)
 | (refine m_call (d:=66) hnode rfl rfl rfl ?_;rw [hR];rintro v2 h2 ⟨hk2,hx,hp2⟩;unfold ndC at hx;refine WL_wkn 66 rfl hx ?_;have hp2l:=(List.getElem?_eq_some_iff.1 hp2).1;have ht2 : h2[h0.length]? = some (.tail acc.length 8 tN):=(hk2.fr _ (by rw [List.length_set];exact hhl) (Ne.symm hpt)).trans (htl1 _))
 | (refine idW ?_;refine W_draw0 rfl ?_)
 | (apply d1 (hd:=rfl);case hop=>first|(apply D_move;rfl)|(apply D_assign;rfl)|(apply D_int;rfl;rfl;rfl)|(apply D_len_str;rfl)|(apply D_idxSn;rfl;rfl;(first|omega|(simp;done)))|exact D_fldB rfl|(apply D_nilB;rfl))
 | (refine idDn ?_;first|refine dL _ (fun hp' hs=>D_loadB1 rfl (hs.trans (by (repeat first|assumption|exact get_last|(refine get_last2 ?_;focus (simp;done))|apply get_set|apply get_app|(apply get_ne;focus omega)|(apply get_ne;focus (simp only [List.length_set,List.length_append,List.length_cons,List.length_nil];omega)));done)) (by rfl)) rfl ?_)
 | (refine WD_nil (by first|decide +kernel|kernel_rfl|rfl) ?_)
          all_goals first
            | (exfalso;omega)
            | skip
          rw [← hnx]
          have hk3 : Keep p h0 h2:=(hK1 _).trans hk2
          refine ⟨rfl,⟨acc ++ [Nd.mk x1 x2 x3 x4 x5 x6 x7 x8],i2,m2,f,none,_⟩,⟨?_,?_,?_,?_,?_,hl2,by show s.length - i2 < f;omega,by show f ≤ F;omega,hm2,?_,hrel2⟩,Nat.lt_succ_self _,⟨rfl,rfl,rfl,rfl,trivial⟩,rfl⟩
          · exact ⟨by rw [List.length_set];exact hk3.len,fun k hk hkp=>(List.getElem?_set_ne (by omega)).trans (hk3.fr k hk hkp)⟩
          · rw [List.length_set];exact (List.getElem?_eq_some_iff.1 ht2).1
          · rw [List.length_append]
            refine (get_set ht2).trans ?_
            rw [hacl];rfl
          · rw [List.length_append];show acc.length + 1 ≤ _;omega
          · rw [List.length_append];exact hal2
          · exact get_ne (Ne.symm hpt) hp2
    · have hrr:=rnodes_end (leaf:=leafT) (f:=f) (e:=eOf eb) (deep:=d) (many:=m) hj
      by_cases he0 : eb = 0
      · have hTok : T = .ok (acc,i + skipL (s.drop i),m):=by
          rw [hrel,hrr,if_neg (by unfold eOf;rw [if_pos he0];decide)];simp
        have hee : (eb.toNat : Int) = 0:=by rw [he0];rfl
        generalize hjj : i + skipL (s.drop i) = j at *
        repeat' first
 | (apply p1 (hd:=rfl);case hop=>first|(apply D_move;rfl)|(apply D_assign;rfl)|(apply D_int;rfl;rfl;rfl)|exact D_fldB rfl|(apply D_nilB;rfl))
 | refine W_seq ?_
 | refine W_region ?_
 | (refine idC ?_;refine cs rfl (fun _=>?_) (fun _=>?_))
 | refine WL_nil ?_
 | refine tn ?_
 | refine tr ?_
 | refine br ?_
 | refine te ?_
 | (refine idB ?_;refine bh rfl ?_)
 | refine W_skip ?_
 | refine W_block ?_
 | refine W_exit ?_
 | refine W_ret ?_
 | (refine idLd ?_;first|refine p1L (D_loadB1 rfl (by (repeat first|assumption|exact get_last|(refine get_last2 ?_;focus (simp;done))|apply get_set|apply get_app|(apply get_ne;focus omega)|(apply get_ne;focus (simp only [List.length_set,List.length_append,List.length_cons,List.length_nil];omega)));done) (by rfl)) rfl ?_)
 | (refine idS ?_;first|refine pS (S_store rfl rfl rfl (by (repeat first|assumption|exact get_last|(refine get_last2 ?_;focus (simp;done))|apply get_set|apply get_app|(apply get_ne;focus omega)|(apply get_ne;focus (simp only [List.length_set,List.length_append,List.length_cons,List.length_nil];omega)));done) (by rfl) (by rfl) (by rfl)) ?_)
 | (refine m_call (d:=14) hsk rfl rfl rfl ?_;rintro _ _ rfl)
 | (refine idW ?_;refine W_draw0 rfl ?_)
 | (apply d1 (hd:=rfl);case hop=>first|(apply D_move;rfl)|(apply D_assign;rfl)|(apply D_int;rfl;rfl;rfl)|(apply D_len_str;rfl)|(apply D_idxSn;rfl;rfl;(first|omega|(simp;done)))|exact D_fldB rfl|(apply D_nilB;rfl))
 | (refine idDn ?_;first|refine dL _ (fun hp' hs=>D_loadB1 rfl (hs.trans (by (repeat first|assumption|exact get_last|(refine get_last2 ?_;focus (simp;done))|apply get_set|apply get_app|(apply get_ne;focus omega)|(apply get_ne;focus (simp only [List.length_set,List.length_append,List.length_cons,List.length_nil];omega)));done)) (by rfl)) rfl ?_)
 | (refine WD_nil (by first|decide +kernel|kernel_rfl|rfl) ?_)
        all_goals first
          | (exfalso;omega)
          | skip
        rw [hTok]
        exact retK1 (.inl rfl) rfl rfl (ResO.tmp rfl) ⟨hK1 _,Wkn.sl,hp1⟩
      · have hTer : T = .error (i + skipL (s.drop i)):=by
          rw [hrel,hrr,if_pos (by unfold eOf;rw [if_neg he0];rfl)]
        have hee : 0 < (eb.toNat : Int):=by
          rcases Nat.eq_zero_or_pos eb.toNat with h|h
          · exact absurd (UInt8.toNat_inj.1 (h.trans (by decide : 0 = (0 : UInt8).toNat))) he0
          · omega
        generalize hjj : i + skipL (s.drop i) = j at *
        repeat' first
 | (apply p1 (hd:=rfl);case hop=>first|(apply D_move;rfl)|(apply D_assign;rfl)|(apply D_int;rfl;rfl;rfl)|exact D_fldB rfl|(apply D_nilB;rfl))
 | refine W_seq ?_
 | refine W_region ?_
 | (refine idC ?_;refine cs rfl (fun _=>?_) (fun _=>?_))
 | refine WL_nil ?_
 | refine tn ?_
 | refine tr ?_
 | refine br ?_
 | refine te ?_
 | (refine idB ?_;refine bh rfl ?_)
 | refine W_skip ?_
 | refine W_block ?_
 | refine W_exit ?_
 | refine W_ret ?_
 | (refine idLd ?_;first|refine p1L (D_loadB1 rfl (by (repeat first|assumption|exact get_last|(refine get_last2 ?_;focus (simp;done))|apply get_set|apply get_app|(apply get_ne;focus omega)|(apply get_ne;focus (simp only [List.length_set,List.length_append,List.length_cons,List.length_nil];omega)));done) (by rfl)) rfl ?_)
 | (refine idS ?_;first|refine pS (S_store rfl rfl rfl (by (repeat first|assumption|exact get_last|(refine get_last2 ?_;focus (simp;done))|apply get_set|apply get_app|(apply get_ne;focus omega)|(apply get_ne;focus (simp only [List.length_set,List.length_append,List.length_cons,List.length_nil];omega)));done) (by rfl) (by rfl) (by rfl)) ?_)
 | (refine m_call (d:=14) hsk rfl rfl rfl ?_;rintro _ _ rfl)
 | (refine idW ?_;refine W_draw0 rfl ?_)
 | (apply d1 (hd:=rfl);case hop=>first|(apply D_move;rfl)|(apply D_assign;rfl)|(apply D_int;rfl;rfl;rfl)|(apply D_len_str;rfl)|(apply D_idxSn;rfl;rfl;(first|omega|(simp;done)))|exact D_fldB rfl|(apply D_nilB;rfl))
 | (refine idDn ?_;first|refine dL _ (fun hp' hs=>D_loadB1 rfl (hs.trans (by (repeat first|assumption|exact get_last|(refine get_last2 ?_;focus (simp;done))|apply get_set|apply get_app|(apply get_ne;focus omega)|(apply get_ne;focus (simp only [List.length_set,List.length_append,List.length_cons,List.length_nil];omega)));done)) (by rfl)) rfl ?_)
 | (refine WD_nil (by first|decide +kernel|kernel_rfl|rfl) ?_)
        all_goals first
          | (exfalso;omega)
          | skip
        rw [hTer]
        refine retK1 (.inl rfl) rfl rfl (ResO.tmp rfl) ⟨?_,⟨acc,Wkn.sl⟩,(j : Int),(d : Int),(m : Int),?_⟩
        · rw [List.set_set];exact hK1 _
        · rw [List.set_set];exact get_set hp
end Go.Proofs.Rd
