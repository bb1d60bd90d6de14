/- Contracts of the program's writer of nodes. -/
import Derived.Test.YtnjnjbombcefcaaDoorPTx
import Derived.Test.YtnjnjbombcefcaaDoorCDInst
import Derived.Test.YtnjnjbombcefcaaDoorPTx4
import Derived.Test.YtnjnjbombcefcaaDoorOps26
import Derived.Test.YtnjnjbombcefcaaDoorOps46
set_option linter.all false
namespace Go.Proofs.Wr
open Go.AL Go.Txt
attribute [local irreducible] Go.AL.W Go.AL.WL Go.AL.WD Go.AL.POp Go.AL.PPOp Go.AL.POpS Go.AL.PC Go.AL.AC Go.AL.YW Go.AL.Ret Go.AL.Le Go.AL.thn Go.AL.inBlk Go.AL.scp
abbrev i64 (n : Int) : AV:=.sc (.int .i64 n)
abbrev bl (b : Bool) : AV:=.sc (.bool b)
abbrev wT : Nat:=91
instance : Lies Tryd.prog 91 5 0 89:=⟨by kernel_rfl⟩
abbrev wC (pa : AV) (tk : Nat) (b : List UInt8) (d m : Int) (bad : Bool) : List AV:=bCells pa tk b [i64 d,i64 m,bl bad]
structure WS (h0 h : List AObj) (p tk : Nat) (pa : AV) (b : List UInt8) (d m : Int) (bad : Bool) : Prop where
  len : h0.length ≤ h.length
  fr : ∀ i,i < h0.length → i ≠ p → i ≠ tk → h[i]? = h0[i]?
  pl : p < h0.length
  tl : tk < h0.length
  box : h[p]? = some (.cells (wC pa tk b d m bad) (some wT))
  tail : h[tk]? = some (.tail b.length 1 5)
  own : ownP p pa
section
variable {h0 h K : List AObj} {p tk : Nat} {pa : AV} {b : List UInt8} {d m : Int} {bad : Bool}
theorem WS.ne (hS : WS h0 h p tk pa b d m bad) : p ≠ tk:=fun e=>by
  have:=hS.box
  rw [e,hS.tail] at this
  cases this
theorem WS.st {d' m' : Int} {bad' : Bool} (hS : WS h0 h p tk pa b d m bad) (hK : K = h.set p (.cells (wC pa tk b d' m' bad') (some wT))) : WS h0 K p tk pa b d' m' bad':=by
  subst hK
  exact ⟨by rw [List.length_set];exact hS.len,fun i hi hp ht=>(List.getElem?_set_ne (Ne.symm hp)).trans (hS.fr i hi hp ht),hS.pl,hS.tl,List.getElem?_set_self (Nat.lt_of_lt_of_le hS.pl hS.len),(List.getElem?_set_ne hS.ne).trans hS.tail,hS.own⟩
theorem WS.bld (hS : WS h0 h p tk pa b d m bad) (hb : b.length < 1099511627776) : Bld h p tk wT pa b [i64 d,i64 m,bl bad]:=⟨hS.box,hS.tail,hS.own,hb⟩
theorem WS.wr {c : List UInt8} (hS : WS h0 h p tk pa b d m bad) (hK : K = bldH h p tk wT c [i64 d,i64 m,bl bad]) : WS h0 K p tk (.bp p 0) c d m bad:=by
  subst hK
  unfold bldH
  refine ⟨by rw [List.length_set,List.length_set];exact hS.len,fun i hi hp ht=>((List.getElem?_set_ne (Ne.symm hp)).trans (List.getElem?_set_ne (Ne.symm ht))).trans (hS.fr i hi hp ht),hS.pl,hS.tl,List.getElem?_set_self (by rw [List.length_set];exact Nat.lt_of_lt_of_le hS.pl hS.len),?_,.inr rfl⟩
  rw [List.getElem?_set_ne hS.ne]
  exact List.getElem?_set_self (Nat.lt_of_lt_of_le hS.tl hS.len)
theorem WS.app {o o' : AObj} (hS : WS h0 h p tk pa b d m bad) (hK : K = (h ++ [o]).set h.length o') : WS h0 K p tk pa b d m bad:=by
  rw [set_lastO] at hK
  subst hK
  exact ⟨by rw [List.length_append];exact Nat.le_trans hS.len (Nat.le_add_right _ _),fun i hi hp ht=>(List.getElem?_append_left (Nat.lt_of_lt_of_le hi hS.len)).trans (hS.fr i hi hp ht),hS.pl,hS.tl,get_app hS.box,get_app hS.tail,hS.own⟩
end
def WOut (h0 : List AObj) (p tk : Nat) (b : List UInt8) (d : Int) (m : Nat) (ok : Prop) (pr : List UInt8) (n wt : Nat) (h' : List AObj) : Prop :=
  (ok ∧ m + n ≤ 5000 ∧ ∃ pa',WS h0 h' p tk pa' (b ++ pr) d ((m + n : Nat) : Int) false) ∨ (¬ (ok ∧ m + n ≤ 5000) ∧ ∃ (pa' : AV) (b' : List UInt8) (m' : Int),b'.length ≤ b.length + wt ∧ WS h0 h' p tk pa' b' d m' true)
def NodeW [GlobF Tryd.prog] (N : Nat) : Prop:=∀ (x : Nd) (d m : Nat) (b : List UInt8) (pa : AV) (h0 h : List AObj) (p tk : Nat),nsz x ≤ N → rgN x → WS h0 h p tk pa b d m false → d ≤ 50 → m ≤ 5000 → b.length + wtN x < 1000000000000 →
  AC Tryd.prog 92 [.bp p 0,.ag (ndC x)] h (fun v h'=>v = .tu [] ∧ WOut h0 p tk b d m (okN d x) (prN x) (nsz x) (wtN x) h')
def ListW [GlobF Tryd.prog] (N : Nat) : Prop:=∀ (l : List Nd) (sep : List UInt8) (d m : Nat) (b : List UInt8) (pa : AV) (h0 h : List AObj) (p tk : Nat),nszL l ≤ N → sep.length ≤ 1 → rgL l → WS h0 h p tk pa b d m false → d ≤ 50 → m ≤ 5000 → b.length + wtL l < 1000000000000 →
  AC Tryd.prog 46 [.bp p 0,.sl none 8 (ndCs l),str sep] h (fun v h'=>v = .tu [] ∧ WOut h0 p tk b d m (okL d l) (prS sep l) (nszL l) (wtL l) h')
theorem zeroV_eq (vk vn : Int) (vs : List UInt8) : lEq [.int .i64 vk,.int .i64 vn,.string ⟨vs.toArray⟩] [.int .i64 0,.int .i64 0,.string ⟨#[]⟩] = dP (vk = 0 ∧ vn = 0 ∧ vs = []):=by
  refine dP_eq ?_
  simp [lEq,iEq_t]
set_option maxHeartbeats 8000000 in
theorem node_bad [GlobF Tryd.prog] {h0 h : List AObj} {p tk : Nat} {pa : AV} {b : List UInt8} {d m : Int} (x : Nd) (hS : WS h0 h p tk pa b d m true) :
    AC Tryd.prog 92 [.bp p 0,.ag (ndC x)] h (fun v h'=>v = .tu [] ∧ ∃ m' : Int,WS h0 h' p tk pa b d m' true):=by
  obtain ⟨k0,vk,vn,vs,s,kids,ln,cl⟩:=x
  unfold ndC
  refine AC.of_body Tryd.func92 Tryd.ntmps92 rfl rfl rfl ?_
  repeat' first
 | (refine p1L (D_loadB1 rfl hS.box rfl) rfl ?_)
 | (refine pS (S_store rfl rfl rfl hS.box rfl rfl rfl) ?_;refine WL_gen fun K hK=>?_;have hS:=WS.st hS hK)
 | (apply p1 (hd:=rfl);case hop=>first|(apply D_move;rfl)|(apply D_pickT;rfl;rfl)|(apply D_pickF;rfl;rfl)|(apply D_int;rfl;rfl;rfl)|(apply D_box;rfl;rfl)|exact D_fldB rfl|(apply D_nilB;rfl))
 | refine W_seq ?_
 | refine W_region ?_
 | (refine idC ?_;first|refine c1 rfl ?_|refine cs rfl (fun _=>?_) (fun _=>?_))
 | refine WL_nil ?_
 | (refine idG ?_;first|refine g0f rfl rfl rfl ?_|refine gr rfl rfl ?_|refine gs rfl rfl (fun _=>?_) (fun _=>?_))
 | refine tn ?_
 | refine tr ?_
 | refine W_skip ?_
 | (refine W_ret ?_)
  all_goals first
    | exact ret0 (.inr rfl) rfl rfl ⟨rfl,_,hS⟩
    | exact ret0 (.inl rfl) rfl rfl ⟨rfl,_,hS⟩
    | contradiction
    | trace_state
set_option maxHeartbeats 8000000 in
theorem list_bad [GlobF Tryd.prog] {h0 h : List AObj} {p tk : Nat} {pa : AV} {b : List UInt8} {d m : Int} (l : List Nd) (hl : l.length < 9223372036854775807) (sep : List UInt8) (hS : WS h0 h p tk pa b d m true) :
    AC Tryd.prog 46 [.bp p 0,.sl none 8 (ndCs l),str sep] h (fun v h'=>v = .tu [] ∧ ∃ m' : Int,WS h0 h' p tk pa b d m' true):=by
  refine AC.of_body Tryd.func46 Tryd.ntmps46 rfl rfl rfl ?_
  repeat' first
 | (apply p1 (hd:=rfl);case hop=>first|(apply D_move;rfl)|(apply D_len_sl;rfl))
 | refine W_seq ?_
 | refine W_region ?_
 | refine WL_nil ?_
 | refine tn ?_
 | (refine W_block ?_)
  cases l with
  | nil =>
    refine W_rounds 1 ?_
    repeat' first
 | (refine cs rfl ?_ (fun _=>?_);focus (intro h;exfalso;revert h;decide))
 | (apply p1 (hd:=rfl);case hop=>first|(apply D_int;rfl;rfl;rfl))
 | refine W_seq ?_
 | refine W_region ?_
 | refine WL_nil ?_
 | refine tn ?_
 | refine te ?_
 | (refine idB ?_;refine bh rfl ?_)
 | (refine W_exit ?_)
    all_goals first
      | exact ret0 (.inr rfl) rfl rfl ⟨rfl,_,hS⟩
      | exact ret0 (.inl rfl) rfl rfl ⟨rfl,_,hS⟩
      | contradiction
      | trace_state
  | cons x l =>
    obtain ⟨k0,vk,vn,vs,s,kids,ln,cl⟩:=x
    have he : (ndCs (.mk k0 vk vn vs s kids ln cl :: l))[((0 : Nat) : Int).toNat]? = some [i64 k0,i64 vk,i64 vn,str vs,str s,.sl none 8 (ndCs kids),i64 ln,i64 cl]:=(ndCs_at (i:=0) rfl).trans (congrArg some (ndC_mk ..))
    have hcl : (ndCs (.mk k0 vk vn vs s kids ln cl :: l)).length = l.length + 1:=ndCs_len _
    refine W_rounds 1 ?_
    repeat' first
 | (apply p1 (hd:=rfl);case hop=>first|(apply D_move;rfl)|(apply D_assign;rfl)|exact D_idxE rfl rfl (Int.natCast_nonneg 0) he|(apply D_int;rfl;rfl;rfl)|(apply D_loadW;rfl;rfl)|exact D_fldB rfl|(apply D_nilB;rfl))
 | refine W_seq ?_
 | refine W_region ?_
 | (refine idC ?_;refine cs rfl (fun _=>?_) (fun _=>?_))
 | refine WL_nil ?_
 | refine tn ?_
 | refine te ?_
 | (refine idB ?_;refine bh rfl ?_)
 | refine W_skip ?_
 | refine W_block ?_
 | refine W_exit ?_
 | (refine idLd ?_;first|refine p1L (D_loadBA rfl (by (repeat first|assumption|exact get_last|(refine get_last2 ?_;focus (simp;done))|apply get_set|apply get_app|(apply get_ne;focus omega)|(apply get_ne;focus (simp only [List.length_set,List.length_append,List.length_cons,List.length_nil];omega)));done) (by rfl)) rfl ?_)
 | (refine idA ?_;refine m_alloc rfl ?_)
 | (refine idS ?_;first|refine pS (S_store rfl rfl rfl (by (repeat first|assumption|exact get_last|(refine get_last2 ?_;focus (simp;done))|apply get_set|apply get_app|(apply get_ne;focus omega)|(apply get_ne;focus (simp only [List.length_set,List.length_append,List.length_cons,List.length_nil];omega)));done) (by rfl) (by rfl) (by rfl)) ?_)
    all_goals first
      | (exfalso;omega)
      | skip
    refine WL_gen fun K hK=>?_
    have hS:=WS.app hS hK
    have hn:=node_bad (.mk k0 vk vn vs s kids ln cl) hS
    rw [ndC_mk] at hn
    repeat' first
 | (refine p1L (D_loadB1 rfl hS.box rfl) rfl ?_)
 | (apply p1 (hd:=rfl);case hop=>first|(apply D_move;rfl)|exact D_fldB rfl|(apply D_nilB;rfl))
 | refine W_seq ?_
 | refine W_region ?_
 | (refine idC ?_;refine c1 rfl ?_)
 | refine WL_nil ?_
 | refine tn ?_
 | refine tr ?_
 | refine br ?_
 | refine W_ret ?_
 | (refine m_call (d:=24) hn rfl rfl rfl ?_;rintro _ K ⟨rfl,m',hS⟩)
    all_goals first
      | exact ret0 (.inr rfl) rfl rfl ⟨rfl,_,hS⟩
      | exact ret0 (.inl rfl) rfl rfl ⟨rfl,_,hS⟩
      | contradiction
      | (exfalso;omega)
      | trace_state
set_option maxHeartbeats 8000000 in
theorem text_any [GlobF Tryd.prog] (hp : PowOK) (v : Val) (hs : v.s.length < 9223372036854775808) (h0 : -9223372036854775808 ≤ v.n) (h1 : v.n ≤ 9223372036854775807) : PC Tryd.prog 121 [eV v] (.tu [str (tL v),.sc (.int .i64 (if mayB v then 0 else 10))]):=by
  by_cases hl : v.s.length < 268435456
  · exact text_pc hp v hl h0 h1
  · have hM : ¬ MayP v:=fun hm=>by
      rcases hm with ⟨_,_,_,h⟩ | ⟨_,h⟩ | ⟨_,h,_⟩ | ⟨_,_,h⟩ | ⟨_,_,h⟩
      · rw [h] at hl;exact hl (by decide)
      · rw [h] at hl;exact hl (by decide)
      · rw [h] at hl;exact hl (by decide)
      · omega
      · have:=h.2.1;omega
    have hc:=may_pc v hs
    rw [tL_f hM,tE_f hM]
    rw [(mayB_f v).mpr hM] at hc
    refine PC.of_body Tryd.func121 Tryd.ntmps121 rfl rfl rfl ?_
    repeat' first
 | (apply p1 (hd:=rfl);case hop=>first|(apply D_assign;rfl)|(apply D_pc hc;rfl;exact .same rfl .nil)|(apply D_load1;rfl)|(apply D_fld;rfl)|(apply D_int;rfl;rfl;rfl)|(apply D_not;rfl)|(apply D_loadW;rfl;rfl)|(apply D_box;rfl;rfl))
 | refine W_seq ?_
 | refine W_region ?_
 | (refine idC ?_;refine cs rfl (fun _=>?_) (fun _=>?_))
 | refine WL_nil ?_
 | refine tn ?_
 | refine tr ?_
 | refine bn ?_
 | refine W_skip ?_
 | refine W_block ?_
 | refine W_ret ?_
 | (refine idR ?_;refine ret2 rfl rfl rfl rfl ?_ ?_)
 | (refine idA ?_;refine m_alloc rfl ?_)
 | refine Le.int ?_
 | (refine Le.str ?_)
    all_goals first
      | rfl
      | contradiction
      | trace_state
end Go.Proofs.Wr

namespace Go.Proofs.Wr
open Go.AL Go.Txt
attribute [local irreducible] Go.AL.W Go.AL.WL Go.AL.WD Go.AL.POp Go.AL.PPOp Go.AL.POpS Go.AL.PC Go.AL.AC Go.AL.YW Go.AL.Ret Go.AL.Le Go.AL.thn Go.AL.inBlk Go.AL.scp
set_option maxHeartbeats 16000000 in
theorem node_w [GlobF Tryd.prog] (hpw : PowOK) (N : Nat) (hL : ListW N) (hN : N < 9223372036854775806) : NodeW (N + 1):=by
  rintro ⟨k0,vk,vn,vs,s,kids,ln,cl⟩ d m b pa h0 h p tk hn hr hS hd hm hb
  rw [rgN] at hr
  rw [wtN] at hb
  rw [nsz] at hn
  obtain ⟨⟨hv0,hv1,hv2⟩,hrk⟩:=hr
  have hkl : (ndCs kids).length = kids.length:=ndCs_len _
  have hkl2:=nszL_len kids
  have hm1 : IntKind.i64.wrap ((m : Int) + 1) = ((m + 1 : Nat) : Int):=wsucc m (by omega)
  have htx:=text_any hpw ⟨vk,vn,vs⟩ hv2 hv0 hv1
  have hnm:=named_pc s (by omega)
  have htl : (tL ⟨vk,vn,vs⟩).length ≤ 3002:=by
    by_cases hM : MayP ⟨vk,vn,vs⟩
    · rw [tL_t hM];exact text_len hM hv0 hv1
    · rw [tL_f hM];exact Nat.zero_le _
  have hz1 : lEq [.int .i64 vk,.int .i64 vn,.string ⟨vs.toArray⟩] [.int .i64 0,.int .i64 0,.string ⟨#[]⟩] = dP (vk = 0 ∧ vn = 0 ∧ vs = []):=zeroV_eq vk vn vs
  have hnt : Value.bool (bNot true) = .bool false:=congrArg Value.bool (by rw [bNot_f])
  have hnf : Value.bool (bNot false) = .bool true:=congrArg Value.bool (by rw [bNot_t])
  rw [ndC_mk]
  by_cases hm5 : 5000 < m + 1
  · refine AC.of_body Tryd.func92 Tryd.ntmps92 rfl rfl rfl ?_
    repeat' first
 | (refine p1L (D_loadB1 rfl hS.box rfl) rfl ?_)
 | (refine pS (S_store rfl rfl rfl hS.box rfl rfl rfl) ?_;refine WL_gen fun K hK=>?_;have hS:=WS.st hS hK)
 | (refine idG ?_;refine gs rfl rfl (fun _=>?_) (fun hh=>absurd hh (by first|exact fun h=>h rfl|omega)))
 | (apply p1 (hd:=rfl);case hop=>first|(apply D_move;rfl)|exact D_sc (D_int rfl rfl rfl) (congrArg (Value.int IntKind.i64) hm1)|(apply D_pickT;rfl;rfl)|(apply D_int;rfl;rfl;rfl)|(apply D_box;rfl;rfl)|exact D_fldB rfl|(apply D_nilB;rfl))
 | refine W_seq ?_
 | refine W_region ?_
 | (refine idC ?_;refine c1 rfl ?_)
 | refine WL_nil ?_
 | (refine idG ?_;refine g0f rfl rfl rfl ?_)
 | refine tn ?_
 | refine tr ?_
 | (refine W_ret ?_)
    all_goals first
      | (exfalso;omega)
      | (exfalso;rename_i hh;exact Bool.noConfusion hh)
      | (exfalso;rename_i hh;exact hh rfl)
      | skip
    all_goals (first|refine ret0 (.inr rfl) rfl rfl ⟨rfl,.inr ⟨?_,_,_,_,?_,hS⟩⟩|refine ret0 (.inl rfl) rfl rfl ⟨rfl,.inr ⟨?_,_,_,_,?_,hS⟩⟩)
    all_goals first
      | exact fun h=>by have h2:=h.2;rw [nsz] at h2;omega
      | exact Nat.le_add_right _ _
      | (rw [wtN];simp only [List.length_append,List.length_cons,List.length_nil];omega)
      | trace_state
  by_cases h1 : k0 = 1
  · subst h1
    by_cases hok : MayP ⟨vk,vn,vs⟩ ∧ s = [] ∧ kids = []
    · obtain ⟨hM,rfl,rfl⟩:=hok
      rw [(mayB_t _).mpr hM,if_pos rfl] at htx
      rw [tL_t hM] at htx htl
      have hk2 : iLt 0 ((ndCs []).length : Int) = false:=by rw [iLt_f,hkl];simp
      refine AC.of_body Tryd.func92 Tryd.ntmps92 rfl rfl rfl ?_
      repeat' first
 | (refine p1L (D_loadB1 rfl hS.box rfl) rfl ?_)
 | (refine pS (S_store rfl rfl rfl hS.box rfl rfl rfl) ?_;refine WL_gen fun K hK=>?_;have hS:=WS.st hS hK)
 | (refine idC ?_;refine cs rfl (fun _=>?_) (fun hh=>absurd hh (by first|exact fun h=>h rfl|omega)))
 | (refine idC ?_;refine cs rfl (fun hh=>absurd hh (by first|exact fun h=>h rfl|omega)) (fun _=>?_))
 | (refine idG ?_;refine gs rfl rfl (fun hh=>absurd hh (by first|exact fun h=>h rfl|omega)) (fun _=>?_))
 | (apply p1 (hd:=rfl);case hop=>first|(apply D_move;rfl)|(apply D_assign;rfl)|exact D_sc (D_int rfl rfl rfl) (congrArg (Value.int IntKind.i64) hm1)|exact D_sc (D_int rfl rfl rfl) (congrArg Value.bool hk2)|(apply D_pc htx;rfl;exact .same rfl .nil)|(apply D_load1;rfl)|(apply D_fld;rfl)|(apply D_pickF;rfl;rfl)|(apply D_int;rfl;rfl;rfl)|(apply D_len_sl;rfl)|(apply D_str;rfl;rfl;rfl)|(apply D_ext;rfl;rfl)|(apply D_loadA;rfl;rfl)|(apply D_box;rfl;rfl)|exact D_fldB rfl|(apply D_nilB;rfl))
 | refine W_seq ?_
 | refine W_region ?_
 | (refine idC ?_;refine c0 rfl ?_)
 | refine WL_nil ?_
 | (refine idG ?_;refine gr rfl rfl ?_)
 | refine tn ?_
 | refine bn ?_
 | refine W_skip ?_
 | refine W_block ?_
 | (refine m_call (d:=66) (wstr_ac (n:=5) rfl (hS.bld (by omega)) _ (by omega)) rfl rfl rfl ?_;rintro _ K ⟨rfl,hK⟩;have hS:=WS.wr hS hK)
      all_goals first
        | (exfalso;omega)
        | (exfalso;rename_i hh;exact Bool.noConfusion hh)
        | (exfalso;rename_i hh;exact hh rfl)
        | skip
      all_goals (first|refine ret0 (.inr rfl) rfl rfl ⟨rfl,.inl ⟨?_,?_,.bp p 0,?_⟩⟩|refine ret0 (.inl rfl) rfl rfl ⟨rfl,.inl ⟨?_,?_,.bp p 0,?_⟩⟩)
      · rw [okN];exact .inl ⟨rfl,hM,rfl,rfl⟩
      · rw [nsz];simp only [nszL];omega
      · rw [prN,nsz];simpa [nszL] using hS
    · by_cases hM : MayP ⟨vk,vn,vs⟩
      · rw [(mayB_t _).mpr hM,if_pos rfl] at htx
        have hok' : ¬ okN d (.mk 1 vk vn vs s kids ln cl):=fun h=>by
          rw [okN] at h
          rcases h with ⟨_,a,b,c⟩ | ⟨h,_⟩ | ⟨h,_⟩
          · exact hok ⟨a,b,c⟩
          · exact absurd h (by decide)
          · omega
        have hsk : ¬ (s = [] ∧ kids = []):=fun e=>hok ⟨hM,e.1,e.2⟩
        by_cases hs0 : s = []
        · subst hs0
          have hk0 : kids ≠ []:=fun e=>hsk ⟨rfl,e⟩
          have hk1 : 0 < kids.length:=List.length_pos_iff.2 hk0
          have hk2 : iLt 0 ((ndCs kids).length : Int) = true:=by rw [iLt_t];omega
          refine AC.of_body Tryd.func92 Tryd.ntmps92 rfl rfl rfl ?_
          repeat' first
 | (refine p1L (D_loadB1 rfl hS.box rfl) rfl ?_)
 | (refine pS (S_store rfl rfl rfl hS.box rfl rfl rfl) ?_;refine WL_gen fun K hK=>?_;have hS:=WS.st hS hK)
 | (refine idC ?_;refine cs rfl (fun _=>?_) (fun hh=>absurd hh (by first|exact fun h=>h rfl|omega)))
 | (refine idC ?_;refine cs rfl (fun hh=>absurd hh (by first|exact fun h=>h rfl|omega)) (fun _=>?_))
 | (refine idG ?_;refine gs rfl rfl (fun hh=>absurd hh (by first|exact fun h=>h rfl|omega)) (fun _=>?_))
 | (apply p1 (hd:=rfl);case hop=>first|(apply D_move;rfl)|(apply D_assign;rfl)|exact D_sc (D_int rfl rfl rfl) (congrArg (Value.int IntKind.i64) hm1)|exact D_sc (D_int rfl rfl rfl) (congrArg Value.bool hk2)|(apply D_pc htx;rfl;exact .same rfl .nil)|(apply D_load1;rfl)|(apply D_fld;rfl)|(apply D_pickF;rfl;rfl)|(apply D_int;rfl;rfl;rfl)|(apply D_len_sl;rfl)|(apply D_str;rfl;rfl;rfl)|(apply D_ext;rfl;rfl)|(apply D_loadA;rfl;rfl)|(apply D_box;rfl;rfl)|exact D_fldB rfl|(apply D_nilB;rfl))
 | refine W_seq ?_
 | refine W_region ?_
 | (refine idC ?_;refine c0 rfl ?_)
 | refine WL_nil ?_
 | (refine idG ?_;refine gr rfl rfl ?_)
 | refine tn ?_
 | refine bn ?_
 | refine W_skip ?_
 | refine W_block ?_
 | (refine m_call (d:=66) (wstr_ac (n:=5) rfl (hS.bld (by omega)) _ (by omega)) rfl rfl rfl ?_;rintro _ K ⟨rfl,hK⟩;have hS:=WS.wr hS hK)
          all_goals first
            | (exfalso;omega)
            | (exfalso;rename_i hh;exact Bool.noConfusion hh)
            | (exfalso;rename_i hh;exact hh rfl)
            | skip
          all_goals (first|refine ret0 (.inr rfl) rfl rfl ⟨rfl,.inr ⟨?_,_,_,_,?_,hS⟩⟩|refine ret0 (.inl rfl) rfl rfl ⟨rfl,.inr ⟨?_,_,_,_,?_,hS⟩⟩)
          all_goals first
            | exact fun h=>hok' h.1
            | exact Nat.le_add_right _ _
            | (rw [wtN];simp only [List.length_append,List.length_cons,List.length_nil];omega)
            | trace_state
        · refine AC.of_body Tryd.func92 Tryd.ntmps92 rfl rfl rfl ?_
          repeat' first
 | (refine p1L (D_loadB1 rfl hS.box rfl) rfl ?_)
 | (refine pS (S_store rfl rfl rfl hS.box rfl rfl rfl) ?_;refine WL_gen fun K hK=>?_;have hS:=WS.st hS hK)
 | (refine idC ?_;refine cs rfl (fun _=>?_) (fun hh=>absurd hh (by first|exact fun h=>h rfl|omega)))
 | (refine idG ?_;refine gs rfl rfl (fun _=>?_) (fun hh=>absurd hh (by first|exact fun h=>h rfl|omega)))
 | (refine idC ?_;refine cs rfl (fun hh=>absurd hh (by first|exact fun h=>h rfl|omega)) (fun _=>?_))
 | (refine idG ?_;refine gs rfl rfl (fun hh=>absurd hh (by first|exact fun h=>h rfl|omega)) (fun _=>?_))
 | (apply p1 (hd:=rfl);case hop=>first|(apply D_move;rfl)|(apply D_assign;rfl)|exact D_sc (D_int rfl rfl rfl) (congrArg (Value.int IntKind.i64) hm1)|(apply D_pc htx;rfl;exact .same rfl .nil)|(apply D_load1;rfl)|(apply D_fld;rfl)|(apply D_pickT;rfl;rfl)|(apply D_pickF;rfl;rfl)|(apply D_int;rfl;rfl;rfl)|(apply D_str;rfl;rfl;rfl)|(apply D_ext;rfl;rfl)|(apply D_loadA;rfl;rfl)|(apply D_box;rfl;rfl)|exact D_fldB rfl|(apply D_nilB;rfl))
 | refine W_seq ?_
 | refine W_region ?_
 | (refine idC ?_;refine c0 rfl ?_)
 | refine WL_nil ?_
 | (refine idG ?_;first|refine g0f rfl rfl rfl ?_|refine gr rfl rfl ?_)
 | refine tn ?_
 | refine bn ?_
 | refine W_skip ?_
 | refine W_block ?_
 | (refine m_call (d:=66) (wstr_ac (n:=5) rfl (hS.bld (by omega)) _ (by omega)) rfl rfl rfl ?_;rintro _ K ⟨rfl,hK⟩;have hS:=WS.wr hS hK)
          all_goals first
            | (exfalso;omega)
            | (exfalso;rename_i hh;exact Bool.noConfusion hh)
            | (exfalso;rename_i hh;exact hh rfl)
            | skip
          all_goals (first|refine ret0 (.inr rfl) rfl rfl ⟨rfl,.inr ⟨?_,_,_,_,?_,hS⟩⟩|refine ret0 (.inl rfl) rfl rfl ⟨rfl,.inr ⟨?_,_,_,_,?_,hS⟩⟩)
          all_goals first
            | exact fun h=>hok' h.1
            | exact Nat.le_add_right _ _
            | (rw [wtN];simp only [List.length_append,List.length_cons,List.length_nil];omega)
            | trace_state
      · rw [(mayB_f _).mpr hM,if_neg (by decide)] at htx
        have hok' : ¬ okN d (.mk 1 vk vn vs s kids ln cl):=fun h=>by
          rw [okN] at h
          rcases h with ⟨_,a,b,c⟩ | ⟨h,_⟩ | ⟨h,_⟩
          · exact hM a
          · exact absurd h (by decide)
          · omega
        refine AC.of_body Tryd.func92 Tryd.ntmps92 rfl rfl rfl ?_
        repeat' first
 | (refine p1L (D_loadB1 rfl hS.box rfl) rfl ?_)
 | (refine pS (S_store rfl rfl rfl hS.box rfl rfl rfl) ?_;refine WL_gen fun K hK=>?_;have hS:=WS.st hS hK)
 | (refine idC ?_;refine cs rfl (fun _=>?_) (fun hh=>absurd hh (by first|exact fun h=>h rfl|omega)))
 | (refine idG ?_;refine gs rfl rfl (fun _=>?_) (fun hh=>absurd hh (by first|exact fun h=>h rfl|omega)))
 | (refine idC ?_;refine cs rfl (fun hh=>absurd hh (by first|exact fun h=>h rfl|omega)) (fun _=>?_))
 | (refine idG ?_;refine gs rfl rfl (fun hh=>absurd hh (by first|exact fun h=>h rfl|omega)) (fun _=>?_))
 | (apply p1 (hd:=rfl);case hop=>first|(apply D_move;rfl)|(apply D_assign;rfl)|exact D_sc (D_int rfl rfl rfl) (congrArg (Value.int IntKind.i64) hm1)|(apply D_pc htx;rfl;exact .same rfl .nil)|(apply D_load1;rfl)|(apply D_fld;rfl)|(apply D_pickT;rfl;rfl)|(apply D_pickF;rfl;rfl)|(apply D_int;rfl;rfl;rfl)|(apply D_ext;rfl;rfl)|(apply D_loadA;rfl;rfl)|(apply D_box;rfl;rfl)|exact D_fldB rfl|(apply D_nilB;rfl))
 | refine W_seq ?_
 | refine W_region ?_
 | (refine idC ?_;refine c0 rfl ?_)
 | refine WL_nil ?_
 | (refine idG ?_;first|refine g0f rfl rfl rfl ?_|refine gr rfl rfl ?_)
 | refine tn ?_
 | refine bn ?_
 | refine W_skip ?_
 | refine W_block ?_
 | (refine m_call (d:=66) (wstr_ac (n:=5) rfl (hS.bld (by omega)) _ (by omega)) rfl rfl rfl ?_;rintro _ K ⟨rfl,hK⟩;have hS:=WS.wr hS hK)
        all_goals first
          | (exfalso;omega)
          | (exfalso;rename_i hh;exact Bool.noConfusion hh)
          | (exfalso;rename_i hh;exact hh rfl)
          | skip
        all_goals (first|refine ret0 (.inr rfl) rfl rfl ⟨rfl,.inr ⟨?_,_,_,_,?_,hS⟩⟩|refine ret0 (.inl rfl) rfl rfl ⟨rfl,.inr ⟨?_,_,_,_,?_,hS⟩⟩)
        all_goals first
          | exact fun h=>hok' h.1
          | exact Nat.le_add_right _ _
          | (rw [wtN];simp only [List.length_append,List.length_cons,List.length_nil];omega)
          | trace_state
  by_cases h2 : k0 = 2
  · subst h2
    by_cases hN0 : NamedP s
    · rw [dP_t.mpr hN0] at hnm
      by_cases hV : vk = 0 ∧ vn = 0 ∧ vs = []
      · have hz2 : bNot (lEq [.int .i64 vk,.int .i64 vn,.string ⟨vs.toArray⟩] [.int .i64 0,.int .i64 0,.string ⟨#[]⟩]) = false:=by rw [bNot_f,hz1];exact dP_t.mpr hV
        by_cases hk0 : kids = []
        · subst hk0
          have hk2 : iLt 0 ((ndCs []).length : Int) = false:=by rw [iLt_f,hkl];simp
          refine AC.of_body Tryd.func92 Tryd.ntmps92 rfl rfl rfl ?_
          repeat' first
 | (refine p1L (D_loadB1 rfl hS.box rfl) rfl ?_)
 | (refine pS (S_store rfl rfl rfl hS.box rfl rfl rfl) ?_;refine WL_gen fun K hK=>?_;have hS:=WS.st hS hK)
 | (refine idC ?_;refine cs rfl (fun _=>?_) (fun hh=>absurd hh (by first|exact fun h=>h rfl|omega)))
 | (refine idC ?_;refine cs rfl (fun hh=>absurd hh (by first|exact fun h=>h rfl|omega)) (fun _=>?_))
 | (refine idG ?_;refine gs rfl rfl (fun hh=>absurd hh (by first|exact fun h=>h rfl|omega)) (fun _=>?_))
 | (refine idW ?_;refine W_dS0 (id:=13) 5 rfl rfl (by decide +kernel) ?_;simp only [List.take_succ_cons,List.take_zero,List.drop_succ_cons,List.drop_zero])
 | (apply p1 (hd:=rfl);case hop=>first|(apply D_move;rfl)|(apply D_assign;rfl)|exact D_sc (D_int rfl rfl rfl) (congrArg (Value.int IntKind.i64) hm1)|(apply D_pc hnm;rfl;exact .same rfl .nil)|exact D_sc (D_not rfl) hnt|exact D_sc (D_neA rfl rfl rfl rfl rfl rfl rfl) (congrArg Value.bool hz2)|exact D_sc (D_int rfl rfl rfl) (congrArg Value.bool hk2)|(apply D_load1;rfl)|(apply D_fld;rfl)|(apply D_pickF;rfl;rfl)|(apply D_int;rfl;rfl;rfl)|(apply D_len_sl;rfl)|(apply D_loadA;rfl;rfl)|(apply D_box;rfl;rfl)|exact D_build rfl|exact D_fldB rfl|(apply D_nilB;rfl))
 | refine W_seq ?_
 | refine W_region ?_
 | (refine idC ?_;refine c0 rfl ?_)
 | refine WL_nil ?_
 | (refine idG ?_;refine gr rfl rfl ?_)
 | refine tn ?_
 | refine bn ?_
 | refine W_skip ?_
 | refine W_block ?_
 | (refine m_call (d:=93) (wstr_ac (n:=5) rfl (hS.bld (by omega)) _ (by omega)) rfl rfl rfl ?_;rintro _ K ⟨rfl,hK⟩;have hS:=WS.wr hS hK)
 | (apply d1 (hd:=rfl);case hop=>first|(apply D_move;rfl)|(apply D_load1;rfl)|(apply D_fld;rfl)|exact D_fldB rfl|(apply D_nilB;rfl))
 | (refine WD_nil (by first|decide +kernel|kernel_rfl|rfl) ?_)
          all_goals first
            | (exfalso;omega)
            | (exfalso;rename_i hh;exact Bool.noConfusion hh)
            | (exfalso;rename_i hh;exact hh rfl)
            | skip
          all_goals (first|refine ret0 (.inr rfl) rfl rfl ⟨rfl,.inl ⟨?_,?_,.bp p 0,?_⟩⟩|refine ret0 (.inl rfl) rfl rfl ⟨rfl,.inl ⟨?_,?_,.bp p 0,?_⟩⟩)
          · rw [okN];exact .inr (.inl ⟨rfl,hN0,hV,rfl⟩)
          · rw [nsz];simp only [nszL];omega
          · rw [prN,nsz,if_neg (by decide),if_pos rfl];simpa [nszL] using hS
        · have hk1 : 0 < kids.length:=List.length_pos_iff.2 hk0
          have hk2 : iLt 0 ((ndCs kids).length : Int) = true:=by rw [iLt_t];omega
          have hok' : ¬ okN d (.mk 2 vk vn vs s kids ln cl):=fun h=>by
            rw [okN] at h
            rcases h with ⟨h,_⟩ | ⟨_,a,b,c⟩ | ⟨h,_⟩
            · exact absurd h (by decide)
            · exact hk0 c
            · omega
          refine AC.of_body Tryd.func92 Tryd.ntmps92 rfl rfl rfl ?_
          repeat' first
 | (refine p1L (D_loadB1 rfl hS.box rfl) rfl ?_)
 | (refine pS (S_store rfl rfl rfl hS.box rfl rfl rfl) ?_;refine WL_gen fun K hK=>?_;have hS:=WS.st hS hK)
 | (refine idC ?_;refine cs rfl (fun _=>?_) (fun hh=>absurd hh (by first|exact fun h=>h rfl|omega)))
 | (refine idC ?_;refine cs rfl (fun hh=>absurd hh (by first|exact fun h=>h rfl|omega)) (fun _=>?_))
 | (refine idG ?_;refine gs rfl rfl (fun hh=>absurd hh (by first|exact fun h=>h rfl|omega)) (fun _=>?_))
 | (refine idW ?_;refine W_dS0 (id:=13) 5 rfl rfl (by decide +kernel) ?_;simp only [List.take_succ_cons,List.take_zero,List.drop_succ_cons,List.drop_zero])
 | (apply p1 (hd:=rfl);case hop=>first|(apply D_move;rfl)|(apply D_assign;rfl)|exact D_sc (D_int rfl rfl rfl) (congrArg (Value.int IntKind.i64) hm1)|(apply D_pc hnm;rfl;exact .same rfl .nil)|exact D_sc (D_not rfl) hnt|exact D_sc (D_neA rfl rfl rfl rfl rfl rfl rfl) (congrArg Value.bool hz2)|exact D_sc (D_int rfl rfl rfl) (congrArg Value.bool hk2)|(apply D_load1;rfl)|(apply D_fld;rfl)|(apply D_pickF;rfl;rfl)|(apply D_int;rfl;rfl;rfl)|(apply D_len_sl;rfl)|(apply D_loadA;rfl;rfl)|(apply D_box;rfl;rfl)|exact D_build rfl|exact D_fldB rfl|(apply D_nilB;rfl))
 | refine W_seq ?_
 | refine W_region ?_
 | (refine idC ?_;refine c0 rfl ?_)
 | refine WL_nil ?_
 | (refine idG ?_;refine gr rfl rfl ?_)
 | refine tn ?_
 | refine bn ?_
 | refine W_skip ?_
 | refine W_block ?_
 | (refine m_call (d:=93) (wstr_ac (n:=5) rfl (hS.bld (by omega)) _ (by omega)) rfl rfl rfl ?_;rintro _ K ⟨rfl,hK⟩;have hS:=WS.wr hS hK)
 | (apply d1 (hd:=rfl);case hop=>first|(apply D_move;rfl)|(apply D_load1;rfl)|(apply D_fld;rfl)|exact D_fldB rfl|(apply D_nilB;rfl))
 | (refine WD_nil (by first|decide +kernel|kernel_rfl|rfl) ?_)
          all_goals first
            | (exfalso;omega)
            | (exfalso;rename_i hh;exact Bool.noConfusion hh)
            | (exfalso;rename_i hh;exact hh rfl)
            | skip
          all_goals (first|refine ret0 (.inr rfl) rfl rfl ⟨rfl,.inr ⟨?_,_,_,_,?_,hS⟩⟩|refine ret0 (.inl rfl) rfl rfl ⟨rfl,.inr ⟨?_,_,_,_,?_,hS⟩⟩)
          all_goals first
            | exact fun h=>hok' h.1
            | exact Nat.le_add_right _ _
            | (rw [wtN];simp only [List.length_append,List.length_cons,List.length_nil];omega)
            | trace_state
      · have hz2 : bNot (lEq [.int .i64 vk,.int .i64 vn,.string ⟨vs.toArray⟩] [.int .i64 0,.int .i64 0,.string ⟨#[]⟩]) = true:=by rw [bNot_t,hz1];exact dP_f.mpr hV
        have hok' : ¬ okN d (.mk 2 vk vn vs s kids ln cl):=fun h=>by
          rw [okN] at h
          rcases h with ⟨h,_⟩ | ⟨_,a,b,c⟩ | ⟨h,_⟩
          · exact absurd h (by decide)
          · exact hV b
          · omega
        refine AC.of_body Tryd.func92 Tryd.ntmps92 rfl rfl rfl ?_
        repeat' first
 | (refine p1L (D_loadB1 rfl hS.box rfl) rfl ?_)
 | (refine pS (S_store rfl rfl rfl hS.box rfl rfl rfl) ?_;refine WL_gen fun K hK=>?_;have hS:=WS.st hS hK)
 | (refine idC ?_;refine cs rfl (fun _=>?_) (fun hh=>absurd hh (by first|exact fun h=>h rfl|omega)))
 | (refine idC ?_;refine cs rfl (fun hh=>absurd hh (by first|exact fun h=>h rfl|omega)) (fun _=>?_))
 | (refine idG ?_;refine gs rfl rfl (fun hh=>absurd hh (by first|exact fun h=>h rfl|omega)) (fun _=>?_))
 | (refine idW ?_;refine W_dS0 (id:=13) 5 rfl rfl (by decide +kernel) ?_;simp only [List.take_succ_cons,List.take_zero,List.drop_succ_cons,List.drop_zero])
 | (apply p1 (hd:=rfl);case hop=>first|(apply D_move;rfl)|(apply D_assign;rfl)|exact D_sc (D_int rfl rfl rfl) (congrArg (Value.int IntKind.i64) hm1)|(apply D_pc hnm;rfl;exact .same rfl .nil)|exact D_sc (D_not rfl) hnt|exact D_sc (D_neA rfl rfl rfl rfl rfl rfl rfl) (congrArg Value.bool hz2)|(apply D_load1;rfl)|(apply D_fld;rfl)|(apply D_pickT;rfl;rfl)|(apply D_pickF;rfl;rfl)|(apply D_int;rfl;rfl;rfl)|(apply D_loadA;rfl;rfl)|(apply D_box;rfl;rfl)|exact D_build rfl|exact D_fldB rfl|(apply D_nilB;rfl))
 | refine W_seq ?_
 | refine W_region ?_
 | (refine idC ?_;refine c0 rfl ?_)
 | refine WL_nil ?_
 | (refine idG ?_;first|refine g0f rfl rfl rfl ?_|refine gr rfl rfl ?_)
 | refine tn ?_
 | refine bn ?_
 | refine W_skip ?_
 | refine W_block ?_
 | (refine m_call (d:=93) (wstr_ac (n:=5) rfl (hS.bld (by omega)) _ (by omega)) rfl rfl rfl ?_;rintro _ K ⟨rfl,hK⟩;have hS:=WS.wr hS hK)
 | (apply d1 (hd:=rfl);case hop=>first|(apply D_move;rfl)|(apply D_load1;rfl)|(apply D_fld;rfl)|exact D_fldB rfl|(apply D_nilB;rfl))
 | (refine WD_nil (by first|decide +kernel|kernel_rfl|rfl) ?_)
        all_goals first
          | (exfalso;omega)
          | (exfalso;rename_i hh;exact Bool.noConfusion hh)
          | (exfalso;rename_i hh;exact hh rfl)
          | skip
        all_goals (first|refine ret0 (.inr rfl) rfl rfl ⟨rfl,.inr ⟨?_,_,_,_,?_,hS⟩⟩|refine ret0 (.inl rfl) rfl rfl ⟨rfl,.inr ⟨?_,_,_,_,?_,hS⟩⟩)
        all_goals first
          | exact fun h=>hok' h.1
          | exact Nat.le_add_right _ _
          | (rw [wtN];simp only [List.length_append,List.length_cons,List.length_nil];omega)
          | trace_state
    · rw [dP_f.mpr hN0] at hnm
      have hok' : ¬ okN d (.mk 2 vk vn vs s kids ln cl):=fun h=>by
        rw [okN] at h
        rcases h with ⟨h,_⟩ | ⟨_,a,b,c⟩ | ⟨h,_⟩
        · exact absurd h (by decide)
        · exact hN0 a
        · omega
      refine AC.of_body Tryd.func92 Tryd.ntmps92 rfl rfl rfl ?_
      repeat' first
 | (refine p1L (D_loadB1 rfl hS.box rfl) rfl ?_)
 | (refine pS (S_store rfl rfl rfl hS.box rfl rfl rfl) ?_;refine WL_gen fun K hK=>?_;have hS:=WS.st hS hK)
 | (refine idC ?_;refine cs rfl (fun _=>?_) (fun hh=>absurd hh (by first|exact fun h=>h rfl|omega)))
 | (refine idC ?_;refine cs rfl (fun hh=>absurd hh (by first|exact fun h=>h rfl|omega)) (fun _=>?_))
 | (refine idG ?_;refine gs rfl rfl (fun hh=>absurd hh (by first|exact fun h=>h rfl|omega)) (fun _=>?_))
 | (refine idW ?_;refine W_dS0 (id:=13) 5 rfl rfl (by decide +kernel) ?_;simp only [List.take_succ_cons,List.take_zero,List.drop_succ_cons,List.drop_zero])
 | (apply p1 (hd:=rfl);case hop=>first|(apply D_move;rfl)|(apply D_assign;rfl)|exact D_sc (D_int rfl rfl rfl) (congrArg (Value.int IntKind.i64) hm1)|(apply D_pc hnm;rfl;exact .same rfl .nil)|exact D_sc (D_not rfl) hnf|(apply D_load1;rfl)|(apply D_fld;rfl)|(apply D_pickT;rfl;rfl)|(apply D_pickF;rfl;rfl)|(apply D_int;rfl;rfl;rfl)|(apply D_box;rfl;rfl)|exact D_fldB rfl|(apply D_nilB;rfl))
 | refine W_seq ?_
 | refine W_region ?_
 | (refine idC ?_;refine c0 rfl ?_)
 | refine WL_nil ?_
 | (refine idG ?_;first|refine g0f rfl rfl rfl ?_|refine gr rfl rfl ?_)
 | refine tn ?_
 | refine bn ?_
 | refine W_skip ?_
 | refine W_block ?_
 | (refine m_call (d:=93) (wstr_ac (n:=5) rfl (hS.bld (by omega)) _ (by omega)) rfl rfl rfl ?_;rintro _ K ⟨rfl,hK⟩;have hS:=WS.wr hS hK)
 | (apply d1 (hd:=rfl);case hop=>first|(apply D_move;rfl)|(apply D_load1;rfl)|(apply D_fld;rfl)|exact D_fldB rfl|(apply D_nilB;rfl))
 | (refine WD_nil (by first|decide +kernel|kernel_rfl|rfl) ?_)
      all_goals first
        | (exfalso;omega)
        | (exfalso;rename_i hh;exact Bool.noConfusion hh)
        | (exfalso;rename_i hh;exact hh rfl)
        | skip
      all_goals (first|refine ret0 (.inr rfl) rfl rfl ⟨rfl,.inr ⟨?_,_,_,_,?_,hS⟩⟩|refine ret0 (.inl rfl) rfl rfl ⟨rfl,.inr ⟨?_,_,_,_,?_,hS⟩⟩)
      all_goals first
        | exact fun h=>hok' h.1
        | exact Nat.le_add_right _ _
        | (rw [wtN];simp only [List.length_append,List.length_cons,List.length_nil];omega)
        | trace_state
  by_cases h35 : k0 = 3 ∨ k0 = 4 ∨ k0 = 5
  · have hd1 : IntKind.i64.wrap ((d : Int) + 1) = ((d + 1 : Nat) : Int):=wsucc d (by omega)
    have hd2 : IntKind.i64.wrap (((d + 1 : Nat) : Int) - 1) = (d : Int):=by rw [w64 _ (by omega) (by omega)];omega
    rcases h35 with h3|h3|h3
    · subst h3
      have hk3 : IntKind.i64.wrap (3 - 3) = ((0 : Nat) : Int):=by decide
      have hbr : okN d (.mk 3 vk vn vs s kids ln cl) ↔ s = [] ∧ (vk = 0 ∧ vn = 0 ∧ vs = []) ∧ d < 50 ∧ okL (d + 1) kids:=by
        rw [okN]
        constructor
        · rintro (⟨h,_⟩ | ⟨h,_⟩ | ⟨_,h⟩)
          · exact absurd h (by decide)
          · exact absurd h (by decide)
          · exact h
        · exact fun h=>.inr (.inr ⟨by decide,h⟩)
      by_cases hs0 : s = []
      · subst hs0
        by_cases hV : vk = 0 ∧ vn = 0 ∧ vs = []
        · have hz2 : bNot (lEq [.int .i64 vk,.int .i64 vn,.string ⟨vs.toArray⟩] [.int .i64 0,.int .i64 0,.string ⟨#[]⟩]) = false:=by rw [bNot_f,hz1];exact dP_t.mpr hV
          by_cases hd5 : d = 50
          · have hok' : ¬ okN d (.mk 3 vk vn vs [] kids ln cl):=fun h=>by have:=(hbr.1 h).2.2.1;omega
            have hd5e : iEq (d : Int) 50 = true:=by rw [iEq_t];omega
            refine AC.of_body Tryd.func92 Tryd.ntmps92 rfl rfl rfl ?_
            repeat' first
 | (refine p1L (D_loadB1 rfl hS.box rfl) rfl ?_)
 | (refine pS (S_store rfl rfl rfl hS.box rfl rfl rfl) ?_;refine WL_gen fun K hK=>?_;have hS:=WS.st hS hK)
 | (refine idC ?_;refine cs rfl (fun _=>?_) (fun hh=>absurd hh (by first|exact fun h=>h rfl|omega)))
 | (refine idC ?_;refine cs rfl (fun hh=>absurd hh (by first|exact fun h=>h rfl|omega)) (fun _=>?_))
 | (refine idG ?_;refine gs rfl rfl (fun hh=>absurd hh (by first|exact fun h=>h rfl|omega)) (fun _=>?_))
 | (refine idW ?_;refine W_dS0 (id:=20) 5 rfl rfl (by decide +kernel) ?_;simp only [List.take_succ_cons,List.take_zero,List.drop_succ_cons,List.drop_zero])
 | (refine idW ?_;refine W_dS0 (id:=22) 5 rfl rfl (by decide +kernel) ?_;simp only [List.take_succ_cons,List.take_zero,List.drop_succ_cons,List.drop_zero])
 | (apply p1 (hd:=rfl);case hop=>first|(apply D_move;rfl)|(apply D_assign;rfl)|exact D_sc (D_int rfl rfl rfl) (congrArg (Value.int IntKind.i64) hm1)|exact D_sc (D_int rfl rfl rfl) (congrArg (Value.int IntKind.i64) hd1)|exact D_sc (D_int rfl rfl rfl) (congrArg (Value.int IntKind.i64) hd2)|exact D_sc (D_int rfl rfl rfl) (congrArg (Value.int IntKind.i64) hk3)|exact D_sc (D_neA rfl rfl rfl rfl rfl rfl rfl) (congrArg Value.bool hz2)|exact D_sc (D_int rfl rfl rfl) (congrArg Value.bool hd5e)|(apply D_load1;rfl)|(apply D_fld;rfl)|(apply D_pickF;rfl;rfl)|(apply D_int;rfl;rfl;rfl)|(apply D_str;rfl;rfl;rfl)|(apply D_loadA;rfl;rfl)|(apply D_box;rfl;rfl)|exact D_build rfl|exact D_fldB rfl|(apply D_nilB;rfl))
 | refine W_seq ?_
 | refine W_region ?_
 | (refine idC ?_;first|refine c1 rfl ?_|refine c0 rfl ?_)
 | refine WL_nil ?_
 | (refine idG ?_;refine gr rfl rfl ?_)
 | refine tn ?_
 | refine bn ?_
 | refine W_skip ?_
 | refine W_block ?_
 | (refine m_call (d:=132) (wbyte_ac (n:=5) rfl (hS.bld (by first|omega|(simp only [List.length_append,List.length_cons,List.length_nil];omega))) _) rfl rfl rfl ?_;rintro _ K ⟨rfl,hK⟩;have hS:=WS.wr hS hK)
 | (refine m_call (d:=142) (wbyte_ac (n:=5) rfl (hS.bld (by first|omega|(simp only [List.length_append,List.length_cons,List.length_nil];omega))) _) rfl rfl rfl ?_;rintro _ K ⟨rfl,hK⟩;have hS:=WS.wr hS hK)
 | (refine m_call (d:=136) (list_bad kids (by omega) [32] hS) rfl rfl rfl ?_;rintro _ K ⟨rfl,m2,hS⟩)
 | (apply d1 (hd:=rfl);case hop=>first|(apply D_move;rfl)|(apply D_idxSn;rfl;rfl;(first|omega|(simp;done)))|exact D_fldB rfl|(apply D_nilB;rfl))
 | (refine WD_nil (by first|decide +kernel|kernel_rfl|rfl) ?_)
            all_goals first
              | (exfalso;omega)
              | (exfalso;rename_i hh;exact Bool.noConfusion hh)
              | (exfalso;rename_i hh;exact hh rfl)
              | skip
            all_goals (first|refine ret0 (.inr rfl) rfl rfl ⟨rfl,.inr ⟨?_,_,_,_,?_,hS⟩⟩|refine ret0 (.inl rfl) rfl rfl ⟨rfl,.inr ⟨?_,_,_,_,?_,hS⟩⟩)
            all_goals first
              | exact fun h=>hok' h.1
              | exact Nat.le_add_right _ _
              | (rw [wtN];simp only [List.length_append,List.length_cons,List.length_nil];omega)
              | trace_state
          · have hd5e : iEq (d : Int) 50 = false:=by rw [iEq_f];omega
            refine AC.of_body Tryd.func92 Tryd.ntmps92 rfl rfl rfl ?_
            repeat' first
 | (refine p1L (D_loadB1 rfl hS.box rfl) rfl ?_)
 | (refine pS (S_store rfl rfl rfl hS.box rfl rfl rfl) ?_;refine WL_gen fun K hK=>?_;have hS:=WS.st hS hK)
 | (refine idC ?_;refine cs rfl (fun _=>?_) (fun hh=>absurd hh (by first|exact fun h=>h rfl|omega)))
 | (refine idC ?_;refine cs rfl (fun hh=>absurd hh (by first|exact fun h=>h rfl|omega)) (fun _=>?_))
 | (refine idG ?_;refine gs rfl rfl (fun hh=>absurd hh (by first|exact fun h=>h rfl|omega)) (fun _=>?_))
 | (refine idW ?_;refine W_dS0 (id:=20) 5 rfl rfl (by decide +kernel) ?_;simp only [List.take_succ_cons,List.take_zero,List.drop_succ_cons,List.drop_zero])
 | (refine idW ?_;refine W_dS0 (id:=22) 5 rfl rfl (by decide +kernel) ?_;simp only [List.take_succ_cons,List.take_zero,List.drop_succ_cons,List.drop_zero])
 | (apply p1 (hd:=rfl);case hop=>first|(apply D_move;rfl)|(apply D_assign;rfl)|exact D_sc (D_int rfl rfl rfl) (congrArg (Value.int IntKind.i64) hm1)|exact D_sc (D_int rfl rfl rfl) (congrArg (Value.int IntKind.i64) hd1)|exact D_sc (D_int rfl rfl rfl) (congrArg (Value.int IntKind.i64) hd2)|exact D_sc (D_int rfl rfl rfl) (congrArg (Value.int IntKind.i64) hk3)|exact D_sc (D_neA rfl rfl rfl rfl rfl rfl rfl) (congrArg Value.bool hz2)|exact D_sc (D_int rfl rfl rfl) (congrArg Value.bool hd5e)|(apply D_load1;rfl)|(apply D_fld;rfl)|(apply D_pickF;rfl;rfl)|(apply D_int;rfl;rfl;rfl)|(apply D_str;rfl;rfl;rfl)|(apply D_loadA;rfl;rfl)|(apply D_box;rfl;rfl)|exact D_build rfl|exact D_fldB rfl|(apply D_nilB;rfl))
 | refine W_seq ?_
 | refine W_region ?_
 | (refine idC ?_;first|refine c1 rfl ?_|refine c0 rfl ?_)
 | refine WL_nil ?_
 | (refine idG ?_;refine gr rfl rfl ?_)
 | refine tn ?_
 | refine bn ?_
 | refine W_skip ?_
 | refine W_block ?_
 | (refine m_call (d:=132) (wbyte_ac (n:=5) rfl (hS.bld (by first|omega|(simp only [List.length_append,List.length_cons,List.length_nil];omega))) _) rfl rfl rfl ?_;rintro _ K ⟨rfl,hK⟩;have hS:=WS.wr hS hK)
 | (refine m_call (d:=142) (wbyte_ac (n:=5) rfl (hS.bld (by first|omega|(simp only [List.length_append,List.length_cons,List.length_nil];omega))) _) rfl rfl rfl ?_;rintro _ K ⟨rfl,hK⟩;have hS:=WS.wr hS hK)
 | (refine m_call (d:=136) (hL kids [32] (d + 1) (m + 1) _ _ h0 _ p tk (by omega) (by decide) hrk hS (by omega) (by omega) (by first|omega|(simp only [List.length_append,List.length_cons,List.length_nil];omega))) rfl rfl rfl ?_;rintro _ K ⟨rfl,(⟨hok2,hle2,pa2,hS⟩ | ⟨hno2,pa2,b2,m2,hb2,hS⟩)⟩ <;> first|have hpl2:=prS_len (by decide : ([32] : List UInt8).length ≤ 1) hok2 hrk|simp only [List.length_append,List.length_cons,List.length_nil] at hb2)
 | (apply d1 (hd:=rfl);case hop=>first|(apply D_move;rfl)|(apply D_idxSn;rfl;rfl;(first|omega|(simp;done)))|exact D_fldB rfl|(apply D_nilB;rfl))
 | (refine WD_nil (by first|decide +kernel|kernel_rfl|rfl) ?_)
            all_goals first
              | (exfalso;omega)
              | (exfalso;rename_i hh;exact Bool.noConfusion hh)
              | (exfalso;rename_i hh;exact hh rfl)
              | skip
            · refine ret0 (.inr rfl) rfl rfl ⟨rfl,.inl ⟨hbr.2 ⟨rfl,hV,by omega,hok2⟩,?_,.bp p 0,?_⟩⟩
              · rw [nsz];omega
              · rw [prN,nsz,if_neg (by decide),if_neg (by decide),prK_S]
                have e1 : m + (1 + nszL kids) = m + 1 + nszL kids:=by omega
                rw [e1]
                simpa using hS
            · refine ret0 (.inr rfl) rfl rfl ⟨rfl,.inr ⟨fun h=>hno2 ⟨(hbr.1 h.1).2.2.2,by have h2:=h.2;rw [nsz] at h2;omega⟩,_,_,_,?_,hS⟩⟩
              rw [wtN];simp only [List.length_append,List.length_cons,List.length_nil];omega
        · have hz2 : bNot (lEq [.int .i64 vk,.int .i64 vn,.string ⟨vs.toArray⟩] [.int .i64 0,.int .i64 0,.string ⟨#[]⟩]) = true:=by rw [bNot_t,hz1];exact dP_f.mpr hV
          have hok' : ¬ okN d (.mk 3 vk vn vs [] kids ln cl):=fun h=>hV (hbr.1 h).2.1
          refine AC.of_body Tryd.func92 Tryd.ntmps92 rfl rfl rfl ?_
          repeat' first
 | (refine p1L (D_loadB1 rfl hS.box rfl) rfl ?_)
 | (refine pS (S_store rfl rfl rfl hS.box rfl rfl rfl) ?_;refine WL_gen fun K hK=>?_;have hS:=WS.st hS hK)
 | (refine idC ?_;refine cs rfl (fun _=>?_) (fun hh=>absurd hh (by first|exact fun h=>h rfl|omega)))
 | (refine idC ?_;refine cs rfl (fun hh=>absurd hh (by first|exact fun h=>h rfl|omega)) (fun _=>?_))
 | (refine idG ?_;refine gs rfl rfl (fun hh=>absurd hh (by first|exact fun h=>h rfl|omega)) (fun _=>?_))
 | (refine idW ?_;refine W_dS0 (id:=20) 5 rfl rfl (by decide +kernel) ?_;simp only [List.take_succ_cons,List.take_zero,List.drop_succ_cons,List.drop_zero])
 | (refine idW ?_;refine W_dS0 (id:=22) 5 rfl rfl (by decide +kernel) ?_;simp only [List.take_succ_cons,List.take_zero,List.drop_succ_cons,List.drop_zero])
 | (apply p1 (hd:=rfl);case hop=>first|(apply D_move;rfl)|(apply D_assign;rfl)|exact D_sc (D_int rfl rfl rfl) (congrArg (Value.int IntKind.i64) hm1)|exact D_sc (D_int rfl rfl rfl) (congrArg (Value.int IntKind.i64) hd1)|exact D_sc (D_int rfl rfl rfl) (congrArg (Value.int IntKind.i64) hd2)|exact D_sc (D_int rfl rfl rfl) (congrArg (Value.int IntKind.i64) hk3)|exact D_sc (D_neA rfl rfl rfl rfl rfl rfl rfl) (congrArg Value.bool hz2)|(apply D_load1;rfl)|(apply D_fld;rfl)|(apply D_pickT;rfl;rfl)|(apply D_pickF;rfl;rfl)|(apply D_int;rfl;rfl;rfl)|(apply D_str;rfl;rfl;rfl)|(apply D_loadA;rfl;rfl)|(apply D_box;rfl;rfl)|exact D_build rfl|exact D_fldB rfl|(apply D_nilB;rfl))
 | refine W_seq ?_
 | refine W_region ?_
 | (refine idC ?_;first|refine c1 rfl ?_|refine c0 rfl ?_)
 | refine WL_nil ?_
 | (refine idG ?_;first|refine g0f rfl rfl rfl ?_|refine gr rfl rfl ?_)
 | refine tn ?_
 | refine bn ?_
 | refine W_skip ?_
 | refine W_block ?_
 | (refine m_call (d:=132) (wbyte_ac (n:=5) rfl (hS.bld (by first|omega|(simp only [List.length_append,List.length_cons,List.length_nil];omega))) _) rfl rfl rfl ?_;rintro _ K ⟨rfl,hK⟩;have hS:=WS.wr hS hK)
 | (refine m_call (d:=142) (wbyte_ac (n:=5) rfl (hS.bld (by first|omega|(simp only [List.length_append,List.length_cons,List.length_nil];omega))) _) rfl rfl rfl ?_;rintro _ K ⟨rfl,hK⟩;have hS:=WS.wr hS hK)
 | (refine m_call (d:=136) (list_bad kids (by omega) [32] hS) rfl rfl rfl ?_;rintro _ K ⟨rfl,m2,hS⟩)
 | (apply d1 (hd:=rfl);case hop=>first|(apply D_move;rfl)|(apply D_idxSn;rfl;rfl;(first|omega|(simp;done)))|exact D_fldB rfl|(apply D_nilB;rfl))
 | (refine WD_nil (by first|decide +kernel|kernel_rfl|rfl) ?_)
          all_goals first
            | (exfalso;omega)
            | (exfalso;rename_i hh;exact Bool.noConfusion hh)
            | (exfalso;rename_i hh;exact hh rfl)
            | skip
          all_goals (first|refine ret0 (.inr rfl) rfl rfl ⟨rfl,.inr ⟨?_,_,_,_,?_,hS⟩⟩|refine ret0 (.inl rfl) rfl rfl ⟨rfl,.inr ⟨?_,_,_,_,?_,hS⟩⟩)
          all_goals first
            | exact fun h=>hok' h.1
            | exact Nat.le_add_right _ _
            | (rw [wtN];simp only [List.length_append,List.length_cons,List.length_nil];omega)
            | trace_state
      · have hok' : ¬ okN d (.mk 3 vk vn vs s kids ln cl):=fun h=>hs0 (hbr.1 h).1
        refine AC.of_body Tryd.func92 Tryd.ntmps92 rfl rfl rfl ?_
        repeat' first
 | (refine p1L (D_loadB1 rfl hS.box rfl) rfl ?_)
 | (refine pS (S_store rfl rfl rfl hS.box rfl rfl rfl) ?_;refine WL_gen fun K hK=>?_;have hS:=WS.st hS hK)
 | (refine idC ?_;refine cs rfl (fun _=>?_) (fun hh=>absurd hh (by first|exact fun h=>h rfl|omega)))
 | (refine idG ?_;refine gs rfl rfl (fun _=>?_) (fun hh=>absurd hh (by first|exact fun h=>h rfl|omega)))
 | (refine idC ?_;refine cs rfl (fun hh=>absurd hh (by first|exact fun h=>h rfl|omega)) (fun _=>?_))
 | (refine idG ?_;refine gs rfl rfl (fun hh=>absurd hh (by first|exact fun h=>h rfl|omega)) (fun _=>?_))
 | (refine idW ?_;refine W_dS0 (id:=20) 5 rfl rfl (by decide +kernel) ?_;simp only [List.take_succ_cons,List.take_zero,List.drop_succ_cons,List.drop_zero])
 | (refine idW ?_;refine W_dS0 (id:=22) 5 rfl rfl (by decide +kernel) ?_;simp only [List.take_succ_cons,List.take_zero,List.drop_succ_cons,List.drop_zero])
 | (apply p1 (hd:=rfl);case hop=>first|(apply D_move;rfl)|(apply D_assign;rfl)|exact D_sc (D_int rfl rfl rfl) (congrArg (Value.int IntKind.i64) hm1)|exact D_sc (D_int rfl rfl rfl) (congrArg (Value.int IntKind.i64) hd1)|exact D_sc (D_int rfl rfl rfl) (congrArg (Value.int IntKind.i64) hd2)|exact D_sc (D_int rfl rfl rfl) (congrArg (Value.int IntKind.i64) hk3)|(apply D_load1;rfl)|(apply D_fld;rfl)|(apply D_pickT;rfl;rfl)|(apply D_pickF;rfl;rfl)|(apply D_int;rfl;rfl;rfl)|(apply D_str;rfl;rfl;rfl)|(apply D_box;rfl;rfl)|exact D_fldB rfl|(apply D_nilB;rfl))
 | refine W_seq ?_
 | refine W_region ?_
 | (refine idC ?_;first|refine c1 rfl ?_|refine c0 rfl ?_)
 | refine WL_nil ?_
 | (refine idG ?_;first|refine g0f rfl rfl rfl ?_|refine gr rfl rfl ?_)
 | refine tn ?_
 | refine bn ?_
 | refine W_skip ?_
 | refine W_block ?_
 | (refine m_call (d:=132) (wbyte_ac (n:=5) rfl (hS.bld (by first|omega|(simp only [List.length_append,List.length_cons,List.length_nil];omega))) _) rfl rfl rfl ?_;rintro _ K ⟨rfl,hK⟩;have hS:=WS.wr hS hK)
 | (refine m_call (d:=142) (wbyte_ac (n:=5) rfl (hS.bld (by first|omega|(simp only [List.length_append,List.length_cons,List.length_nil];omega))) _) rfl rfl rfl ?_;rintro _ K ⟨rfl,hK⟩;have hS:=WS.wr hS hK)
 | (refine m_call (d:=136) (list_bad kids (by omega) [32] hS) rfl rfl rfl ?_;rintro _ K ⟨rfl,m2,hS⟩)
 | (apply d1 (hd:=rfl);case hop=>first|(apply D_move;rfl)|(apply D_idxSn;rfl;rfl;(first|omega|(simp;done)))|exact D_fldB rfl|(apply D_nilB;rfl))
 | (refine WD_nil (by first|decide +kernel|kernel_rfl|rfl) ?_)
        all_goals first
          | (exfalso;omega)
          | (exfalso;rename_i hh;exact Bool.noConfusion hh)
          | (exfalso;rename_i hh;exact hh rfl)
          | skip
        all_goals (first|refine ret0 (.inr rfl) rfl rfl ⟨rfl,.inr ⟨?_,_,_,_,?_,hS⟩⟩|refine ret0 (.inl rfl) rfl rfl ⟨rfl,.inr ⟨?_,_,_,_,?_,hS⟩⟩)
        all_goals first
          | exact fun h=>hok' h.1
          | exact Nat.le_add_right _ _
          | (rw [wtN];simp only [List.length_append,List.length_cons,List.length_nil];omega)
          | trace_state
    · subst h3
      have hk3 : IntKind.i64.wrap (4 - 3) = ((1 : Nat) : Int):=by decide
      have hbr : okN d (.mk 4 vk vn vs s kids ln cl) ↔ s = [] ∧ (vk = 0 ∧ vn = 0 ∧ vs = []) ∧ d < 50 ∧ okL (d + 1) kids:=by
        rw [okN]
        constructor
        · rintro (⟨h,_⟩ | ⟨h,_⟩ | ⟨_,h⟩)
          · exact absurd h (by decide)
          · exact absurd h (by decide)
          · exact h
        · exact fun h=>.inr (.inr ⟨by decide,h⟩)
      by_cases hs0 : s = []
      · subst hs0
        by_cases hV : vk = 0 ∧ vn = 0 ∧ vs = []
        · have hz2 : bNot (lEq [.int .i64 vk,.int .i64 vn,.string ⟨vs.toArray⟩] [.int .i64 0,.int .i64 0,.string ⟨#[]⟩]) = false:=by rw [bNot_f,hz1];exact dP_t.mpr hV
          by_cases hd5 : d = 50
          · have hok' : ¬ okN d (.mk 4 vk vn vs [] kids ln cl):=fun h=>by have:=(hbr.1 h).2.2.1;omega
            have hd5e : iEq (d : Int) 50 = true:=by rw [iEq_t];omega
            refine AC.of_body Tryd.func92 Tryd.ntmps92 rfl rfl rfl ?_
            repeat' first
 | (refine p1L (D_loadB1 rfl hS.box rfl) rfl ?_)
 | (refine pS (S_store rfl rfl rfl hS.box rfl rfl rfl) ?_;refine WL_gen fun K hK=>?_;have hS:=WS.st hS hK)
 | (refine idC ?_;refine cs rfl (fun _=>?_) (fun hh=>absurd hh (by first|exact fun h=>h rfl|omega)))
 | (refine idC ?_;refine cs rfl (fun hh=>absurd hh (by first|exact fun h=>h rfl|omega)) (fun _=>?_))
 | (refine idG ?_;refine gs rfl rfl (fun hh=>absurd hh (by first|exact fun h=>h rfl|omega)) (fun _=>?_))
 | (refine idW ?_;refine W_dS0 (id:=20) 5 rfl rfl (by decide +kernel) ?_;simp only [List.take_succ_cons,List.take_zero,List.drop_succ_cons,List.drop_zero])
 | (refine idW ?_;refine W_dS0 (id:=22) 5 rfl rfl (by decide +kernel) ?_;simp only [List.take_succ_cons,List.take_zero,List.drop_succ_cons,List.drop_zero])
 | (apply p1 (hd:=rfl);case hop=>first|(apply D_move;rfl)|(apply D_assign;rfl)|exact D_sc (D_int rfl rfl rfl) (congrArg (Value.int IntKind.i64) hm1)|exact D_sc (D_int rfl rfl rfl) (congrArg (Value.int IntKind.i64) hd1)|exact D_sc (D_int rfl rfl rfl) (congrArg (Value.int IntKind.i64) hd2)|exact D_sc (D_int rfl rfl rfl) (congrArg (Value.int IntKind.i64) hk3)|exact D_sc (D_neA rfl rfl rfl rfl rfl rfl rfl) (congrArg Value.bool hz2)|exact D_sc (D_int rfl rfl rfl) (congrArg Value.bool hd5e)|(apply D_load1;rfl)|(apply D_fld;rfl)|(apply D_pickF;rfl;rfl)|(apply D_int;rfl;rfl;rfl)|(apply D_str;rfl;rfl;rfl)|(apply D_loadA;rfl;rfl)|(apply D_box;rfl;rfl)|exact D_build rfl|exact D_fldB rfl|(apply D_nilB;rfl))
 | refine W_seq ?_
 | refine W_region ?_
 | (refine idC ?_;first|refine c1 rfl ?_|refine c0 rfl ?_)
 | refine WL_nil ?_
 | (refine idG ?_;refine gr rfl rfl ?_)
 | refine tn ?_
 | refine bn ?_
 | refine W_skip ?_
 | refine W_block ?_
 | (refine m_call (d:=132) (wbyte_ac (n:=5) rfl (hS.bld (by first|omega|(simp only [List.length_append,List.length_cons,List.length_nil];omega))) _) rfl rfl rfl ?_;rintro _ K ⟨rfl,hK⟩;have hS:=WS.wr hS hK)
 | (refine m_call (d:=142) (wbyte_ac (n:=5) rfl (hS.bld (by first|omega|(simp only [List.length_append,List.length_cons,List.length_nil];omega))) _) rfl rfl rfl ?_;rintro _ K ⟨rfl,hK⟩;have hS:=WS.wr hS hK)
 | (refine m_call (d:=136) (list_bad kids (by omega) [32] hS) rfl rfl rfl ?_;rintro _ K ⟨rfl,m2,hS⟩)
 | (apply d1 (hd:=rfl);case hop=>first|(apply D_move;rfl)|(apply D_idxSn;rfl;rfl;(first|omega|(simp;done)))|exact D_fldB rfl|(apply D_nilB;rfl))
 | (refine WD_nil (by first|decide +kernel|kernel_rfl|rfl) ?_)
            all_goals first
              | (exfalso;omega)
              | (exfalso;rename_i hh;exact Bool.noConfusion hh)
              | (exfalso;rename_i hh;exact hh rfl)
              | skip
            all_goals (first|refine ret0 (.inr rfl) rfl rfl ⟨rfl,.inr ⟨?_,_,_,_,?_,hS⟩⟩|refine ret0 (.inl rfl) rfl rfl ⟨rfl,.inr ⟨?_,_,_,_,?_,hS⟩⟩)
            all_goals first
              | exact fun h=>hok' h.1
              | exact Nat.le_add_right _ _
              | (rw [wtN];simp only [List.length_append,List.length_cons,List.length_nil];omega)
              | trace_state
          · have hd5e : iEq (d : Int) 50 = false:=by rw [iEq_f];omega
            refine AC.of_body Tryd.func92 Tryd.ntmps92 rfl rfl rfl ?_
            repeat' first
 | (refine p1L (D_loadB1 rfl hS.box rfl) rfl ?_)
 | (refine pS (S_store rfl rfl rfl hS.box rfl rfl rfl) ?_;refine WL_gen fun K hK=>?_;have hS:=WS.st hS hK)
 | (refine idC ?_;refine cs rfl (fun _=>?_) (fun hh=>absurd hh (by first|exact fun h=>h rfl|omega)))
 | (refine idC ?_;refine cs rfl (fun hh=>absurd hh (by first|exact fun h=>h rfl|omega)) (fun _=>?_))
 | (refine idG ?_;refine gs rfl rfl (fun hh=>absurd hh (by first|exact fun h=>h rfl|omega)) (fun _=>?_))
 | (refine idW ?_;refine W_dS0 (id:=20) 5 rfl rfl (by decide +kernel) ?_;simp only [List.take_succ_cons,List.take_zero,List.drop_succ_cons,List.drop_zero])
 | (refine idW ?_;refine W_dS0 (id:=22) 5 rfl rfl (by decide +kernel) ?_;simp only [List.take_succ_cons,List.take_zero,List.drop_succ_cons,List.drop_zero])
 | (apply p1 (hd:=rfl);case hop=>first|(apply D_move;rfl)|(apply D_assign;rfl)|exact D_sc (D_int rfl rfl rfl) (congrArg (Value.int IntKind.i64) hm1)|exact D_sc (D_int rfl rfl rfl) (congrArg (Value.int IntKind.i64) hd1)|exact D_sc (D_int rfl rfl rfl) (congrArg (Value.int IntKind.i64) hd2)|exact D_sc (D_int rfl rfl rfl) (congrArg (Value.int IntKind.i64) hk3)|exact D_sc (D_neA rfl rfl rfl rfl rfl rfl rfl) (congrArg Value.bool hz2)|exact D_sc (D_int rfl rfl rfl) (congrArg Value.bool hd5e)|(apply D_load1;rfl)|(apply D_fld;rfl)|(apply D_pickF;rfl;rfl)|(apply D_int;rfl;rfl;rfl)|(apply D_str;rfl;rfl;rfl)|(apply D_loadA;rfl;rfl)|(apply D_box;rfl;rfl)|exact D_build rfl|exact D_fldB rfl|(apply D_nilB;rfl))
 | refine W_seq ?_
 | refine W_region ?_
 | (refine idC ?_;first|refine c1 rfl ?_|refine c0 rfl ?_)
 | refine WL_nil ?_
 | (refine idG ?_;refine gr rfl rfl ?_)
 | refine tn ?_
 | refine bn ?_
 | refine W_skip ?_
 | refine W_block ?_
 | (refine m_call (d:=132) (wbyte_ac (n:=5) rfl (hS.bld (by first|omega|(simp only [List.length_append,List.length_cons,List.length_nil];omega))) _) rfl rfl rfl ?_;rintro _ K ⟨rfl,hK⟩;have hS:=WS.wr hS hK)
 | (refine m_call (d:=142) (wbyte_ac (n:=5) rfl (hS.bld (by first|omega|(simp only [List.length_append,List.length_cons,List.length_nil];omega))) _) rfl rfl rfl ?_;rintro _ K ⟨rfl,hK⟩;have hS:=WS.wr hS hK)
 | (refine m_call (d:=136) (hL kids [32] (d + 1) (m + 1) _ _ h0 _ p tk (by omega) (by decide) hrk hS (by omega) (by omega) (by first|omega|(simp only [List.length_append,List.length_cons,List.length_nil];omega))) rfl rfl rfl ?_;rintro _ K ⟨rfl,(⟨hok2,hle2,pa2,hS⟩ | ⟨hno2,pa2,b2,m2,hb2,hS⟩)⟩ <;> first|have hpl2:=prS_len (by decide : ([32] : List UInt8).length ≤ 1) hok2 hrk|simp only [List.length_append,List.length_cons,List.length_nil] at hb2)
 | (apply d1 (hd:=rfl);case hop=>first|(apply D_move;rfl)|(apply D_idxSn;rfl;rfl;(first|omega|(simp;done)))|exact D_fldB rfl|(apply D_nilB;rfl))
 | (refine WD_nil (by first|decide +kernel|kernel_rfl|rfl) ?_)
            all_goals first
              | (exfalso;omega)
              | (exfalso;rename_i hh;exact Bool.noConfusion hh)
              | (exfalso;rename_i hh;exact hh rfl)
              | skip
            · refine ret0 (.inr rfl) rfl rfl ⟨rfl,.inl ⟨hbr.2 ⟨rfl,hV,by omega,hok2⟩,?_,.bp p 0,?_⟩⟩
              · rw [nsz];omega
              · rw [prN,nsz,if_neg (by decide),if_neg (by decide),prK_S]
                have e1 : m + (1 + nszL kids) = m + 1 + nszL kids:=by omega
                rw [e1]
                simpa using hS
            · refine ret0 (.inr rfl) rfl rfl ⟨rfl,.inr ⟨fun h=>hno2 ⟨(hbr.1 h.1).2.2.2,by have h2:=h.2;rw [nsz] at h2;omega⟩,_,_,_,?_,hS⟩⟩
              rw [wtN];simp only [List.length_append,List.length_cons,List.length_nil];omega
        · have hz2 : bNot (lEq [.int .i64 vk,.int .i64 vn,.string ⟨vs.toArray⟩] [.int .i64 0,.int .i64 0,.string ⟨#[]⟩]) = true:=by rw [bNot_t,hz1];exact dP_f.mpr hV
          have hok' : ¬ okN d (.mk 4 vk vn vs [] kids ln cl):=fun h=>hV (hbr.1 h).2.1
          refine AC.of_body Tryd.func92 Tryd.ntmps92 rfl rfl rfl ?_
          repeat' first
 | (refine p1L (D_loadB1 rfl hS.box rfl) rfl ?_)
 | (refine pS (S_store rfl rfl rfl hS.box rfl rfl rfl) ?_;refine WL_gen fun K hK=>?_;have hS:=WS.st hS hK)
 | (refine idC ?_;refine cs rfl (fun _=>?_) (fun hh=>absurd hh (by first|exact fun h=>h rfl|omega)))
 | (refine idC ?_;refine cs rfl (fun hh=>absurd hh (by first|exact fun h=>h rfl|omega)) (fun _=>?_))
 | (refine idG ?_;refine gs rfl rfl (fun hh=>absurd hh (by first|exact fun h=>h rfl|omega)) (fun _=>?_))
 | (refine idW ?_;refine W_dS0 (id:=20) 5 rfl rfl (by decide +kernel) ?_;simp only [List.take_succ_cons,List.take_zero,List.drop_succ_cons,List.drop_zero])
 | (refine idW ?_;refine W_dS0 (id:=22) 5 rfl rfl (by decide +kernel) ?_;simp only [List.take_succ_cons,List.take_zero,List.drop_succ_cons,List.drop_zero])
 | (apply p1 (hd:=rfl);case hop=>first|(apply D_move;rfl)|(apply D_assign;rfl)|exact D_sc (D_int rfl rfl rfl) (congrArg (Value.int IntKind.i64) hm1)|exact D_sc (D_int rfl rfl rfl) (congrArg (Value.int IntKind.i64) hd1)|exact D_sc (D_int rfl rfl rfl) (congrArg (Value.int IntKind.i64) hd2)|exact D_sc (D_int rfl rfl rfl) (congrArg (Value.int IntKind.i64) hk3)|exact D_sc (D_neA rfl rfl rfl rfl rfl rfl rfl) (congrArg Value.bool hz2)|(apply D_load1;rfl)|(apply D_fld;rfl)|(apply D_pickT;rfl;rfl)|(apply D_pickF;rfl;rfl)|(apply D_int;rfl;rfl;rfl)|(apply D_str;rfl;rfl;rfl)|(apply D_loadA;rfl;rfl)|(apply D_box;rfl;rfl)|exact D_build rfl|exact D_fldB rfl|(apply D_nilB;rfl))
 | refine W_seq ?_
 | refine W_region ?_
 | (refine idC ?_;first|refine c1 rfl ?_|refine c0 rfl ?_)
 | refine WL_nil ?_
 | (refine idG ?_;first|refine g0f rfl rfl rfl ?_|refine gr rfl rfl ?_)
 | refine tn ?_
 | refine bn ?_
 | refine W_skip ?_
 | refine W_block ?_
 | (refine m_call (d:=132) (wbyte_ac (n:=5) rfl (hS.bld (by first|omega|(simp only [List.length_append,List.length_cons,List.length_nil];omega))) _) rfl rfl rfl ?_;rintro _ K ⟨rfl,hK⟩;have hS:=WS.wr hS hK)
 | (refine m_call (d:=142) (wbyte_ac (n:=5) rfl (hS.bld (by first|omega|(simp only [List.length_append,List.length_cons,List.length_nil];omega))) _) rfl rfl rfl ?_;rintro _ K ⟨rfl,hK⟩;have hS:=WS.wr hS hK)
 | (refine m_call (d:=136) (list_bad kids (by omega) [32] hS) rfl rfl rfl ?_;rintro _ K ⟨rfl,m2,hS⟩)
 | (apply d1 (hd:=rfl);case hop=>first|(apply D_move;rfl)|(apply D_idxSn;rfl;rfl;(first|omega|(simp;done)))|exact D_fldB rfl|(apply D_nilB;rfl))
 | (refine WD_nil (by first|decide +kernel|kernel_rfl|rfl) ?_)
          all_goals first
            | (exfalso;omega)
            | (exfalso;rename_i hh;exact Bool.noConfusion hh)
            | (exfalso;rename_i hh;exact hh rfl)
            | skip
          all_goals (first|refine ret0 (.inr rfl) rfl rfl ⟨rfl,.inr ⟨?_,_,_,_,?_,hS⟩⟩|refine ret0 (.inl rfl) rfl rfl ⟨rfl,.inr ⟨?_,_,_,_,?_,hS⟩⟩)
          all_goals first
            | exact fun h=>hok' h.1
            | exact Nat.le_add_right _ _
            | (rw [wtN];simp only [List.length_append,List.length_cons,List.length_nil];omega)
            | trace_state
      · have hok' : ¬ okN d (.mk 4 vk vn vs s kids ln cl):=fun h=>hs0 (hbr.1 h).1
        refine AC.of_body Tryd.func92 Tryd.ntmps92 rfl rfl rfl ?_
        repeat' first
 | (refine p1L (D_loadB1 rfl hS.box rfl) rfl ?_)
 | (refine pS (S_store rfl rfl rfl hS.box rfl rfl rfl) ?_;refine WL_gen fun K hK=>?_;have hS:=WS.st hS hK)
 | (refine idC ?_;refine cs rfl (fun _=>?_) (fun hh=>absurd hh (by first|exact fun h=>h rfl|omega)))
 | (refine idG ?_;refine gs rfl rfl (fun _=>?_) (fun hh=>absurd hh (by first|exact fun h=>h rfl|omega)))
 | (refine idC ?_;refine cs rfl (fun hh=>absurd hh (by first|exact fun h=>h rfl|omega)) (fun _=>?_))
 | (refine idG ?_;refine gs rfl rfl (fun hh=>absurd hh (by first|exact fun h=>h rfl|omega)) (fun _=>?_))
 | (refine idW ?_;refine W_dS0 (id:=20) 5 rfl rfl (by decide +kernel) ?_;simp only [List.take_succ_cons,List.take_zero,List.drop_succ_cons,List.drop_zero])
 | (refine idW ?_;refine W_dS0 (id:=22) 5 rfl rfl (by decide +kernel) ?_;simp only [List.take_succ_cons,List.take_zero,List.drop_succ_cons,List.drop_zero])
 | (apply p1 (hd:=rfl);case hop=>first|(apply D_move;rfl)|(apply D_assign;rfl)|exact D_sc (D_int rfl rfl rfl) (congrArg (Value.int IntKind.i64) hm1)|exact D_sc (D_int rfl rfl rfl) (congrArg (Value.int IntKind.i64) hd1)|exact D_sc (D_int rfl rfl rfl) (congrArg (Value.int IntKind.i64) hd2)|exact D_sc (D_int rfl rfl rfl) (congrArg (Value.int IntKind.i64) hk3)|(apply D_load1;rfl)|(apply D_fld;rfl)|(apply D_pickT;rfl;rfl)|(apply D_pickF;rfl;rfl)|(apply D_int;rfl;rfl;rfl)|(apply D_str;rfl;rfl;rfl)|(apply D_box;rfl;rfl)|exact D_fldB rfl|(apply D_nilB;rfl))
 | refine W_seq ?_
 | refine W_region ?_
 | (refine idC ?_;first|refine c1 rfl ?_|refine c0 rfl ?_)
 | refine WL_nil ?_
 | (refine idG ?_;first|refine g0f rfl rfl rfl ?_|refine gr rfl rfl ?_)
 | refine tn ?_
 | refine bn ?_
 | refine W_skip ?_
 | refine W_block ?_
 | (refine m_call (d:=132) (wbyte_ac (n:=5) rfl (hS.bld (by first|omega|(simp only [List.length_append,List.length_cons,List.length_nil];omega))) _) rfl rfl rfl ?_;rintro _ K ⟨rfl,hK⟩;have hS:=WS.wr hS hK)
 | (refine m_call (d:=142) (wbyte_ac (n:=5) rfl (hS.bld (by first|omega|(simp only [List.length_append,List.length_cons,List.length_nil];omega))) _) rfl rfl rfl ?_;rintro _ K ⟨rfl,hK⟩;have hS:=WS.wr hS hK)
 | (refine m_call (d:=136) (list_bad kids (by omega) [32] hS) rfl rfl rfl ?_;rintro _ K ⟨rfl,m2,hS⟩)
 | (apply d1 (hd:=rfl);case hop=>first|(apply D_move;rfl)|(apply D_idxSn;rfl;rfl;(first|omega|(simp;done)))|exact D_fldB rfl|(apply D_nilB;rfl))
 | (refine WD_nil (by first|decide +kernel|kernel_rfl|rfl) ?_)
        all_goals first
          | (exfalso;omega)
          | (exfalso;rename_i hh;exact Bool.noConfusion hh)
          | (exfalso;rename_i hh;exact hh rfl)
          | skip
        all_goals (first|refine ret0 (.inr rfl) rfl rfl ⟨rfl,.inr ⟨?_,_,_,_,?_,hS⟩⟩|refine ret0 (.inl rfl) rfl rfl ⟨rfl,.inr ⟨?_,_,_,_,?_,hS⟩⟩)
        all_goals first
          | exact fun h=>hok' h.1
          | exact Nat.le_add_right _ _
          | (rw [wtN];simp only [List.length_append,List.length_cons,List.length_nil];omega)
          | trace_state
    · subst h3
      have hk3 : IntKind.i64.wrap (5 - 3) = ((2 : Nat) : Int):=by decide
      have hbr : okN d (.mk 5 vk vn vs s kids ln cl) ↔ s = [] ∧ (vk = 0 ∧ vn = 0 ∧ vs = []) ∧ d < 50 ∧ okL (d + 1) kids:=by
        rw [okN]
        constructor
        · rintro (⟨h,_⟩ | ⟨h,_⟩ | ⟨_,h⟩)
          · exact absurd h (by decide)
          · exact absurd h (by decide)
          · exact h
        · exact fun h=>.inr (.inr ⟨by decide,h⟩)
      by_cases hs0 : s = []
      · subst hs0
        by_cases hV : vk = 0 ∧ vn = 0 ∧ vs = []
        · have hz2 : bNot (lEq [.int .i64 vk,.int .i64 vn,.string ⟨vs.toArray⟩] [.int .i64 0,.int .i64 0,.string ⟨#[]⟩]) = false:=by rw [bNot_f,hz1];exact dP_t.mpr hV
          by_cases hd5 : d = 50
          · have hok' : ¬ okN d (.mk 5 vk vn vs [] kids ln cl):=fun h=>by have:=(hbr.1 h).2.2.1;omega
            have hd5e : iEq (d : Int) 50 = true:=by rw [iEq_t];omega
            refine AC.of_body Tryd.func92 Tryd.ntmps92 rfl rfl rfl ?_
            repeat' first
 | (refine p1L (D_loadB1 rfl hS.box rfl) rfl ?_)
 | (refine pS (S_store rfl rfl rfl hS.box rfl rfl rfl) ?_;refine WL_gen fun K hK=>?_;have hS:=WS.st hS hK)
 | (refine idC ?_;refine cs rfl (fun _=>?_) (fun hh=>absurd hh (by first|exact fun h=>h rfl|omega)))
 | (refine idC ?_;refine cs rfl (fun hh=>absurd hh (by first|exact fun h=>h rfl|omega)) (fun _=>?_))
 | (refine idG ?_;refine gs rfl rfl (fun hh=>absurd hh (by first|exact fun h=>h rfl|omega)) (fun _=>?_))
 | (refine idW ?_;refine W_dS0 (id:=20) 5 rfl rfl (by decide +kernel) ?_;simp only [List.take_succ_cons,List.take_zero,List.drop_succ_cons,List.drop_zero])
 | (refine idW ?_;refine W_dS0 (id:=22) 5 rfl rfl (by decide +kernel) ?_;simp only [List.take_succ_cons,List.take_zero,List.drop_succ_cons,List.drop_zero])
 | (apply p1 (hd:=rfl);case hop=>first|(apply D_move;rfl)|(apply D_assign;rfl)|exact D_sc (D_int rfl rfl rfl) (congrArg (Value.int IntKind.i64) hm1)|exact D_sc (D_int rfl rfl rfl) (congrArg (Value.int IntKind.i64) hd1)|exact D_sc (D_int rfl rfl rfl) (congrArg (Value.int IntKind.i64) hd2)|exact D_sc (D_int rfl rfl rfl) (congrArg (Value.int IntKind.i64) hk3)|exact D_sc (D_neA rfl rfl rfl rfl rfl rfl rfl) (congrArg Value.bool hz2)|exact D_sc (D_int rfl rfl rfl) (congrArg Value.bool hd5e)|(apply D_load1;rfl)|(apply D_fld;rfl)|(apply D_pickF;rfl;rfl)|(apply D_int;rfl;rfl;rfl)|(apply D_str;rfl;rfl;rfl)|(apply D_loadA;rfl;rfl)|(apply D_box;rfl;rfl)|exact D_build rfl|exact D_fldB rfl|(apply D_nilB;rfl))
 | refine W_seq ?_
 | refine W_region ?_
 | (refine idC ?_;refine c0 rfl ?_)
 | refine WL_nil ?_
 | (refine idG ?_;refine gr rfl rfl ?_)
 | refine tn ?_
 | refine bn ?_
 | refine W_skip ?_
 | refine W_block ?_
 | (refine m_call (d:=132) (wbyte_ac (n:=5) rfl (hS.bld (by first|omega|(simp only [List.length_append,List.length_cons,List.length_nil];omega))) _) rfl rfl rfl ?_;rintro _ K ⟨rfl,hK⟩;have hS:=WS.wr hS hK)
 | (refine m_call (d:=142) (wbyte_ac (n:=5) rfl (hS.bld (by first|omega|(simp only [List.length_append,List.length_cons,List.length_nil];omega))) _) rfl rfl rfl ?_;rintro _ K ⟨rfl,hK⟩;have hS:=WS.wr hS hK)
 | (refine m_call (d:=136) (list_bad kids (by omega) [32] hS) rfl rfl rfl ?_;rintro _ K ⟨rfl,m2,hS⟩)
 | (apply d1 (hd:=rfl);case hop=>first|(apply D_move;rfl)|(apply D_idxSn;rfl;rfl;(first|omega|(simp;done)))|exact D_fldB rfl|(apply D_nilB;rfl))
 | (refine WD_nil (by first|decide +kernel|kernel_rfl|rfl) ?_)
            all_goals first
              | (exfalso;omega)
              | (exfalso;rename_i hh;exact Bool.noConfusion hh)
              | (exfalso;rename_i hh;exact hh rfl)
              | skip
            all_goals (first|refine ret0 (.inr rfl) rfl rfl ⟨rfl,.inr ⟨?_,_,_,_,?_,hS⟩⟩|refine ret0 (.inl rfl) rfl rfl ⟨rfl,.inr ⟨?_,_,_,_,?_,hS⟩⟩)
            all_goals first
              | exact fun h=>hok' h.1
              | exact Nat.le_add_right _ _
              | (rw [wtN];simp only [List.length_append,List.length_cons,List.length_nil];omega)
              | trace_state
          · have hd5e : iEq (d : Int) 50 = false:=by rw [iEq_f];omega
            refine AC.of_body Tryd.func92 Tryd.ntmps92 rfl rfl rfl ?_
            repeat' first
 | (refine p1L (D_loadB1 rfl hS.box rfl) rfl ?_)
 | (refine pS (S_store rfl rfl rfl hS.box rfl rfl rfl) ?_;refine WL_gen fun K hK=>?_;have hS:=WS.st hS hK)
 | (refine idC ?_;refine cs rfl (fun _=>?_) (fun hh=>absurd hh (by first|exact fun h=>h rfl|omega)))
 | (refine idC ?_;refine cs rfl (fun hh=>absurd hh (by first|exact fun h=>h rfl|omega)) (fun _=>?_))
 | (refine idG ?_;refine gs rfl rfl (fun hh=>absurd hh (by first|exact fun h=>h rfl|omega)) (fun _=>?_))
 | (refine idW ?_;refine W_dS0 (id:=20) 5 rfl rfl (by decide +kernel) ?_;simp only [List.take_succ_cons,List.take_zero,List.drop_succ_cons,List.drop_zero])
 | (refine idW ?_;refine W_dS0 (id:=22) 5 rfl rfl (by decide +kernel) ?_;simp only [List.take_succ_cons,List.take_zero,List.drop_succ_cons,List.drop_zero])
 | (apply p1 (hd:=rfl);case hop=>first|(apply D_move;rfl)|(apply D_assign;rfl)|exact D_sc (D_int rfl rfl rfl) (congrArg (Value.int IntKind.i64) hm1)|exact D_sc (D_int rfl rfl rfl) (congrArg (Value.int IntKind.i64) hd1)|exact D_sc (D_int rfl rfl rfl) (congrArg (Value.int IntKind.i64) hd2)|exact D_sc (D_int rfl rfl rfl) (congrArg (Value.int IntKind.i64) hk3)|exact D_sc (D_neA rfl rfl rfl rfl rfl rfl rfl) (congrArg Value.bool hz2)|exact D_sc (D_int rfl rfl rfl) (congrArg Value.bool hd5e)|(apply D_load1;rfl)|(apply D_fld;rfl)|(apply D_pickF;rfl;rfl)|(apply D_int;rfl;rfl;rfl)|(apply D_str;rfl;rfl;rfl)|(apply D_loadA;rfl;rfl)|(apply D_box;rfl;rfl)|exact D_build rfl|exact D_fldB rfl|(apply D_nilB;rfl))
 | refine W_seq ?_
 | refine W_region ?_
 | (refine idC ?_;refine c0 rfl ?_)
 | refine WL_nil ?_
 | (refine idG ?_;refine gr rfl rfl ?_)
 | refine tn ?_
 | refine bn ?_
 | refine W_skip ?_
 | refine W_block ?_
 | (refine m_call (d:=132) (wbyte_ac (n:=5) rfl (hS.bld (by first|omega|(simp only [List.length_append,List.length_cons,List.length_nil];omega))) _) rfl rfl rfl ?_;rintro _ K ⟨rfl,hK⟩;have hS:=WS.wr hS hK)
 | (refine m_call (d:=142) (wbyte_ac (n:=5) rfl (hS.bld (by first|omega|(simp only [List.length_append,List.length_cons,List.length_nil];omega))) _) rfl rfl rfl ?_;rintro _ K ⟨rfl,hK⟩;have hS:=WS.wr hS hK)
 | (refine m_call (d:=136) (hL kids [32] (d + 1) (m + 1) _ _ h0 _ p tk (by omega) (by decide) hrk hS (by omega) (by omega) (by first|omega|(simp only [List.length_append,List.length_cons,List.length_nil];omega))) rfl rfl rfl ?_;rintro _ K ⟨rfl,(⟨hok2,hle2,pa2,hS⟩ | ⟨hno2,pa2,b2,m2,hb2,hS⟩)⟩ <;> first|have hpl2:=prS_len (by decide : ([32] : List UInt8).length ≤ 1) hok2 hrk|simp only [List.length_append,List.length_cons,List.length_nil] at hb2)
 | (apply d1 (hd:=rfl);case hop=>first|(apply D_move;rfl)|(apply D_idxSn;rfl;rfl;(first|omega|(simp;done)))|exact D_fldB rfl|(apply D_nilB;rfl))
 | (refine WD_nil (by first|decide +kernel|kernel_rfl|rfl) ?_)
            all_goals first
              | (exfalso;omega)
              | (exfalso;rename_i hh;exact Bool.noConfusion hh)
              | (exfalso;rename_i hh;exact hh rfl)
              | skip
            · refine ret0 (.inr rfl) rfl rfl ⟨rfl,.inl ⟨hbr.2 ⟨rfl,hV,by omega,hok2⟩,?_,.bp p 0,?_⟩⟩
              · rw [nsz];omega
              · rw [prN,nsz,if_neg (by decide),if_neg (by decide),prK_S]
                have e1 : m + (1 + nszL kids) = m + 1 + nszL kids:=by omega
                rw [e1]
                simpa using hS
            · refine ret0 (.inr rfl) rfl rfl ⟨rfl,.inr ⟨fun h=>hno2 ⟨(hbr.1 h.1).2.2.2,by have h2:=h.2;rw [nsz] at h2;omega⟩,_,_,_,?_,hS⟩⟩
              rw [wtN];simp only [List.length_append,List.length_cons,List.length_nil];omega
        · have hz2 : bNot (lEq [.int .i64 vk,.int .i64 vn,.string ⟨vs.toArray⟩] [.int .i64 0,.int .i64 0,.string ⟨#[]⟩]) = true:=by rw [bNot_t,hz1];exact dP_f.mpr hV
          have hok' : ¬ okN d (.mk 5 vk vn vs [] kids ln cl):=fun h=>hV (hbr.1 h).2.1
          refine AC.of_body Tryd.func92 Tryd.ntmps92 rfl rfl rfl ?_
          repeat' first
 | (refine p1L (D_loadB1 rfl hS.box rfl) rfl ?_)
 | (refine pS (S_store rfl rfl rfl hS.box rfl rfl rfl) ?_;refine WL_gen fun K hK=>?_;have hS:=WS.st hS hK)
 | (refine idC ?_;refine cs rfl (fun _=>?_) (fun hh=>absurd hh (by first|exact fun h=>h rfl|omega)))
 | (refine idC ?_;refine cs rfl (fun hh=>absurd hh (by first|exact fun h=>h rfl|omega)) (fun _=>?_))
 | (refine idG ?_;refine gs rfl rfl (fun hh=>absurd hh (by first|exact fun h=>h rfl|omega)) (fun _=>?_))
 | (refine idW ?_;refine W_dS0 (id:=20) 5 rfl rfl (by decide +kernel) ?_;simp only [List.take_succ_cons,List.take_zero,List.drop_succ_cons,List.drop_zero])
 | (refine idW ?_;refine W_dS0 (id:=22) 5 rfl rfl (by decide +kernel) ?_;simp only [List.take_succ_cons,List.take_zero,List.drop_succ_cons,List.drop_zero])
 | (apply p1 (hd:=rfl);case hop=>first|(apply D_move;rfl)|(apply D_assign;rfl)|exact D_sc (D_int rfl rfl rfl) (congrArg (Value.int IntKind.i64) hm1)|exact D_sc (D_int rfl rfl rfl) (congrArg (Value.int IntKind.i64) hd1)|exact D_sc (D_int rfl rfl rfl) (congrArg (Value.int IntKind.i64) hd2)|exact D_sc (D_int rfl rfl rfl) (congrArg (Value.int IntKind.i64) hk3)|exact D_sc (D_neA rfl rfl rfl rfl rfl rfl rfl) (congrArg Value.bool hz2)|(apply D_load1;rfl)|(apply D_fld;rfl)|(apply D_pickT;rfl;rfl)|(apply D_pickF;rfl;rfl)|(apply D_int;rfl;rfl;rfl)|(apply D_str;rfl;rfl;rfl)|(apply D_loadA;rfl;rfl)|(apply D_box;rfl;rfl)|exact D_build rfl|exact D_fldB rfl|(apply D_nilB;rfl))
 | refine W_seq ?_
 | refine W_region ?_
 | (refine idC ?_;refine c0 rfl ?_)
 | refine WL_nil ?_
 | (refine idG ?_;first|refine g0f rfl rfl rfl ?_|refine gr rfl rfl ?_)
 | refine tn ?_
 | refine bn ?_
 | refine W_skip ?_
 | refine W_block ?_
 | (refine m_call (d:=132) (wbyte_ac (n:=5) rfl (hS.bld (by first|omega|(simp only [List.length_append,List.length_cons,List.length_nil];omega))) _) rfl rfl rfl ?_;rintro _ K ⟨rfl,hK⟩;have hS:=WS.wr hS hK)
 | (refine m_call (d:=142) (wbyte_ac (n:=5) rfl (hS.bld (by first|omega|(simp only [List.length_append,List.length_cons,List.length_nil];omega))) _) rfl rfl rfl ?_;rintro _ K ⟨rfl,hK⟩;have hS:=WS.wr hS hK)
 | (refine m_call (d:=136) (list_bad kids (by omega) [32] hS) rfl rfl rfl ?_;rintro _ K ⟨rfl,m2,hS⟩)
 | (apply d1 (hd:=rfl);case hop=>first|(apply D_move;rfl)|(apply D_idxSn;rfl;rfl;(first|omega|(simp;done)))|exact D_fldB rfl|(apply D_nilB;rfl))
 | (refine WD_nil (by first|decide +kernel|kernel_rfl|rfl) ?_)
          all_goals first
            | (exfalso;omega)
            | (exfalso;rename_i hh;exact Bool.noConfusion hh)
            | (exfalso;rename_i hh;exact hh rfl)
            | skip
          all_goals (first|refine ret0 (.inr rfl) rfl rfl ⟨rfl,.inr ⟨?_,_,_,_,?_,hS⟩⟩|refine ret0 (.inl rfl) rfl rfl ⟨rfl,.inr ⟨?_,_,_,_,?_,hS⟩⟩)
          all_goals first
            | exact fun h=>hok' h.1
            | exact Nat.le_add_right _ _
            | (rw [wtN];simp only [List.length_append,List.length_cons,List.length_nil];omega)
            | trace_state
      · have hok' : ¬ okN d (.mk 5 vk vn vs s kids ln cl):=fun h=>hs0 (hbr.1 h).1
        refine AC.of_body Tryd.func92 Tryd.ntmps92 rfl rfl rfl ?_
        repeat' first
 | (refine p1L (D_loadB1 rfl hS.box rfl) rfl ?_)
 | (refine pS (S_store rfl rfl rfl hS.box rfl rfl rfl) ?_;refine WL_gen fun K hK=>?_;have hS:=WS.st hS hK)
 | (refine idC ?_;refine cs rfl (fun _=>?_) (fun hh=>absurd hh (by first|exact fun h=>h rfl|omega)))
 | (refine idG ?_;refine gs rfl rfl (fun _=>?_) (fun hh=>absurd hh (by first|exact fun h=>h rfl|omega)))
 | (refine idC ?_;refine cs rfl (fun hh=>absurd hh (by first|exact fun h=>h rfl|omega)) (fun _=>?_))
 | (refine idG ?_;refine gs rfl rfl (fun hh=>absurd hh (by first|exact fun h=>h rfl|omega)) (fun _=>?_))
 | (refine idW ?_;refine W_dS0 (id:=20) 5 rfl rfl (by decide +kernel) ?_;simp only [List.take_succ_cons,List.take_zero,List.drop_succ_cons,List.drop_zero])
 | (refine idW ?_;refine W_dS0 (id:=22) 5 rfl rfl (by decide +kernel) ?_;simp only [List.take_succ_cons,List.take_zero,List.drop_succ_cons,List.drop_zero])
 | (apply p1 (hd:=rfl);case hop=>first|(apply D_move;rfl)|(apply D_assign;rfl)|exact D_sc (D_int rfl rfl rfl) (congrArg (Value.int IntKind.i64) hm1)|exact D_sc (D_int rfl rfl rfl) (congrArg (Value.int IntKind.i64) hd1)|exact D_sc (D_int rfl rfl rfl) (congrArg (Value.int IntKind.i64) hd2)|exact D_sc (D_int rfl rfl rfl) (congrArg (Value.int IntKind.i64) hk3)|(apply D_load1;rfl)|(apply D_fld;rfl)|(apply D_pickT;rfl;rfl)|(apply D_pickF;rfl;rfl)|(apply D_int;rfl;rfl;rfl)|(apply D_str;rfl;rfl;rfl)|(apply D_box;rfl;rfl)|exact D_fldB rfl|(apply D_nilB;rfl))
 | refine W_seq ?_
 | refine W_region ?_
 | (refine idC ?_;refine c0 rfl ?_)
 | refine WL_nil ?_
 | (refine idG ?_;first|refine g0f rfl rfl rfl ?_|refine gr rfl rfl ?_)
 | refine tn ?_
 | refine bn ?_
 | refine W_skip ?_
 | refine W_block ?_
 | (refine m_call (d:=132) (wbyte_ac (n:=5) rfl (hS.bld (by first|omega|(simp only [List.length_append,List.length_cons,List.length_nil];omega))) _) rfl rfl rfl ?_;rintro _ K ⟨rfl,hK⟩;have hS:=WS.wr hS hK)
 | (refine m_call (d:=142) (wbyte_ac (n:=5) rfl (hS.bld (by first|omega|(simp only [List.length_append,List.length_cons,List.length_nil];omega))) _) rfl rfl rfl ?_;rintro _ K ⟨rfl,hK⟩;have hS:=WS.wr hS hK)
 | (refine m_call (d:=136) (list_bad kids (by omega) [32] hS) rfl rfl rfl ?_;rintro _ K ⟨rfl,m2,hS⟩)
 | (apply d1 (hd:=rfl);case hop=>first|(apply D_move;rfl)|(apply D_idxSn;rfl;rfl;(first|omega|(simp;done)))|exact D_fldB rfl|(apply D_nilB;rfl))
 | (refine WD_nil (by first|decide +kernel|kernel_rfl|rfl) ?_)
        all_goals first
          | (exfalso;omega)
          | (exfalso;rename_i hh;exact Bool.noConfusion hh)
          | (exfalso;rename_i hh;exact hh rfl)
          | skip
        all_goals (first|refine ret0 (.inr rfl) rfl rfl ⟨rfl,.inr ⟨?_,_,_,_,?_,hS⟩⟩|refine ret0 (.inl rfl) rfl rfl ⟨rfl,.inr ⟨?_,_,_,_,?_,hS⟩⟩)
        all_goals first
          | exact fun h=>hok' h.1
          | exact Nat.le_add_right _ _
          | (rw [wtN];simp only [List.length_append,List.length_cons,List.length_nil];omega)
          | trace_state
  · refine AC.of_body Tryd.func92 Tryd.ntmps92 rfl rfl rfl ?_
    repeat' first
 | (refine p1L (D_loadB1 rfl hS.box rfl) rfl ?_)
 | (refine pS (S_store rfl rfl rfl hS.box rfl rfl rfl) ?_;refine WL_gen fun K hK=>?_;have hS:=WS.st hS hK)
 | (refine idC ?_;refine cs rfl (fun hh=>absurd hh (by first|exact fun h=>h rfl|omega)) (fun _=>?_))
 | (refine idG ?_;refine gs rfl rfl (fun hh=>absurd hh (by first|exact fun h=>h rfl|omega)) (fun _=>?_))
 | (apply p1 (hd:=rfl);case hop=>first|(apply D_move;rfl)|(apply D_assign;rfl)|exact D_sc (D_int rfl rfl rfl) (congrArg (Value.int IntKind.i64) hm1)|(apply D_load1;rfl)|(apply D_fld;rfl)|(apply D_pickF;rfl;rfl)|(apply D_int;rfl;rfl;rfl)|(apply D_box;rfl;rfl)|exact D_fldB rfl|(apply D_nilB;rfl))
 | refine W_seq ?_
 | refine W_region ?_
 | (refine idC ?_;refine c0 rfl ?_)
 | refine WL_nil ?_
 | (refine idG ?_;refine gr rfl rfl ?_)
 | refine tn ?_
 | refine bn ?_
 | refine W_skip ?_
 | (refine W_block ?_)
    all_goals first
      | (exfalso;omega)
      | (exfalso;rename_i hh;exact Bool.noConfusion hh)
      | (exfalso;rename_i hh;exact hh rfl)
      | skip
    all_goals (first|refine ret0 (.inr rfl) rfl rfl ⟨rfl,.inr ⟨?_,_,_,_,?_,hS⟩⟩|refine ret0 (.inl rfl) rfl rfl ⟨rfl,.inr ⟨?_,_,_,_,?_,hS⟩⟩)
    all_goals first
      | exact fun h=>by have h2:=h.1;rw [okN] at h2;omega
      | exact Nat.le_add_right _ _
      | (rw [wtN];simp only [List.length_append,List.length_cons,List.length_nil];omega)
      | trace_state
end Go.Proofs.Wr
