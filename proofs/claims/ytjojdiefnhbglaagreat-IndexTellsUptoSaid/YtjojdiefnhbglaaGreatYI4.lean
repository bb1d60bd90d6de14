
/- Contracts of the next datom, in the index and in the document; of the document's adding. -/
import Derived.Test.YtjojdiefnhbglaaGreatYT12
import Derived.Test.YtjojdiefnhbglaaGreatYD3
set_option linter.all false
namespace Go.Proofs
open Go.AL Go.Sort
attribute [local irreducible] Go.AL.W Go.AL.WL Go.AL.WD Go.AL.POp Go.AL.PPOp Go.AL.POpS Go.AL.PC Go.AL.AC Go.AL.YW Go.AL.Ret Go.AL.Le Go.AL.thn Go.AL.inBlk Go.AL.scp
end Go.Proofs

namespace Go.Proofs
open Go.AL Go.Sort
attribute [local irreducible] Go.AL.W Go.AL.WL Go.AL.WD Go.AL.POp Go.AL.PPOp Go.AL.POpS Go.AL.PC Go.AL.AC Go.AL.YW Go.AL.Ret Go.AL.Le Go.AL.thn Go.AL.inBlk Go.AL.scp
abbrev wtD1 (d : Dat) : Nat:=1 + d.v.s.length
theorem gr_sum : ∀ (l : List Dat) (n : Int),0 ≤ n → n + 21 * ((l.map wtD1).sum : Nat) < 9223372036854775807 → grS n l = n + ((l.map fun d=>20 + d.v.s.length).sum : Nat)
  | [],n,h0,h=>by simp [grS]
  | d :: t,n,h0,h=>by
    simp only [List.map_cons,List.sum_cons,wtD1] at h ⊢
    have hw : IntKind.i64.wrap (IntKind.i64.wrap (n + 20) + d.v.s.length) = n + 20 + d.v.s.length:=by
      rw [w64 (n + 20) (by omega) (by omega),w64 _ (by omega) (by omega)]
    rw [grS,hw,gr_sum t _ (by omega) (by omega)]
    omega
theorem gr_few {l : List Dat} (hw : (l.map wtD1).sum ≤ 1048576) (h : ¬ 4000 < grS 0 l) : l.length ≤ 200 ∧ ∀ d,d ∈ l → d.v.s.length ≤ 4000:=by
  have h1:=gr_sum l 0 (by omega) (by omega)
  rw [h1] at h
  have h2 : 20 * l.length ≤ (l.map fun d=>20 + d.v.s.length).sum ∧ ∀ d,d ∈ l → 20 + d.v.s.length ≤ (l.map fun d=>20 + d.v.s.length).sum:=by
    clear h h1 hw
    induction l with
    | nil=>exact ⟨by simp,fun d hd=>by cases hd⟩
    | cons x t ih =>
      simp only [List.map_cons,List.sum_cons,List.length_cons]
      refine ⟨by omega,fun d hd=>?_⟩
      rcases List.mem_cons.1 hd with rfl|hd
      · omega
      · have:=ih.2 d hd;omega
  exact ⟨by omega,fun d hd=>by have:=h2.2 d hd;omega⟩
theorem wt_sl {l : List Dat} (hw : (l.map wtD1).sum ≤ 1048576) : l.length ≤ 1048576 ∧ ∀ d,d ∈ l → d.v.s.length ≤ 1048576:=by
  have h2 : l.length ≤ (l.map wtD1).sum ∧ ∀ d,d ∈ l → d.v.s.length ≤ (l.map wtD1).sum:=by
    clear hw
    induction l with
    | nil=>exact ⟨by simp,fun d hd=>by cases hd⟩
    | cons x t ih =>
      simp only [List.map_cons,List.sum_cons,List.length_cons,wtD1]
      refine ⟨by omega,fun d hd=>?_⟩
      rcases List.mem_cons.1 hd with rfl|hd
      · omega
      · have:=ih.2 d hd;omega
  exact ⟨by omega,fun d hd=>by have:=h2.2 d hd;omega⟩
end Go.Proofs

namespace Go.Proofs
open Go.AL Go.Sort
attribute [local irreducible] Go.AL.W Go.AL.WL Go.AL.WD Go.AL.POp Go.AL.PPOp Go.AL.POpS Go.AL.PC Go.AL.AC Go.AL.YW Go.AL.Ret Go.AL.Le Go.AL.thn Go.AL.inBlk Go.AL.scp
structure Vw where
  up : Int
  af : Int
  at_ : Int
  one : Bool
  no : Bool
abbrev wC (v : Vw) : List AV:=[.sc (.int .i64 v.up),.sc (.int .i64 v.af),.sc (.int .i64 v.at_),.sc (.bool v.one),.sc (.bool v.no)]
abbrev eW (v : Vw) : AV:=.ag (wC v)
def seeP (v : Vw) (d : Dat) : Prop:=v.af < d.t ∧ (v.up = 0 ∨ d.t ≤ v.up)
noncomputable def seeB (v : Vw) (d : Dat) : Bool:=dP (seeP v d)
abbrev okV (v : Vw) : Prop:=(0 ≤ v.up ∧ 0 ≤ v.af) ∧ v.up ≤ 1099511627776 ∧ v.af ≤ 1099511627776
open Classical in
noncomputable def datsE (o : Int) (p : List Prt) (v : Vw) : Int:=if preE o p ≠ 0 then preE o p else if okV v then 0 else 2
open Classical in
noncomputable def datsL (o : Int) (p : List Prt) (v : Vw) (L : List Dat) : List Dat:=if datsE o p v = 0 then (preL o (preB o p) L).filter (seeB v) else []
theorem preB_len (o : Int) (p : List Prt) : (preB o p).length ≤ 8036:=by
  unfold preB
  split
  · rename_i h
    unfold keyB
    split
    · rename_i h2
      have : ∀ l : List Prt,(∀ p,p ∈ l → PartP p) → (l.flatMap partB).length ≤ 2009 * l.length:=by
        intro l
        induction l with
        | nil=>intro _;simp
        | cons x t ih =>
          intro h3
          have h4:=ih fun p hp=>h3 p (.tail _ hp)
          have h5:=partB_len (h3 x (.head _))
          rw [List.flatMap_cons,List.length_append,List.length_cons];omega
      have h6:=this p h2
      have:=h.2.1
      omega
    · simp
  · simp
theorem preE_o {o : Int} {p : List Prt} (h : preE o p = 0) : 1 ≤ o ∧ o ≤ 4:=(preE_P h).1
set_option maxHeartbeats 16000000 in
theorem idatoms_pc [GlobF Tryz.prog] (x : Option Ix) (L : List Dat) (hx : IxOf L (topI x)) (hL : okL L) (hl : L.length ≤ 262144) (o : Int) (p : List Prt) (v : Vw) (hp : p.length < 9223372036854775808) (hs : ∀ q,q ∈ p → q.v.s.length < 9223372036854775808) :
    PC Tryz.prog 13 [xA x,.sc (.int .i64 o),.sl none 5 (p.map pC),eW v] (.tu [sl9 (datsL o p v L),.sc (.int .i64 (datsE o p v))]):=by
  have hpre:=prefix_pc o p hp hs
  refine PC.of_body Tryz.func13 Tryz.ntmps13 rfl rfl rfl ?_
  by_cases c1 : preE o p = 0
  rotate_left
  · have e1 : datsE o p v = preE o p:=by unfold datsE;rw [if_pos c1]
    rw [show datsL o p v L = [] by unfold datsL;rw [e1,if_neg c1],e1]
    repeat' first
 | (apply p1 (hd:=rfl);case hop=>first|(apply D_move;rfl)|(apply D_assign;rfl)|(apply D_pc hpre;rfl;exact .same rfl (.same rfl .nil))|(apply D_load1;rfl)|(apply D_fld;rfl)|(apply D_int;rfl;rfl;rfl)|(apply D_ext;rfl;rfl)|(apply D_box;rfl;rfl))
 | refine W_seq ?_
 | refine W_region ?_
 | (refine idC ?_;refine cs rfl (fun _=>?_) (fun _=>?_))
 | refine WL_nil ?_
 | refine tn ?_
 | refine tr ?_
 | refine W_skip ?_
 | refine W_ret ?_
 | (refine idR ?_;refine ret2 rfl rfl rfl rfl ?_ ?_)
 | (refine Le.int ?_)
    all_goals first|exact Le.nil rfl|rfl|contradiction|skip
  have e1 : datsE o p v = if okV v then 0 else 2:=by unfold datsE;rw [if_neg (by simpa using c1)]
  rw [c1] at hpre
  by_cases c2 : okV v
  rotate_left
  · rw [if_neg c2] at e1
    rw [show datsL o p v L = [] by unfold datsL;rw [e1,if_neg (by decide)],e1]
    by_cases c3 : (min v.up v.af) < 0
    · have g1 : Value.bool (iLt (min v.up v.af) 0) = .bool true:=by rw [(iLt_t _ _).mpr c3]
      repeat' first
 | (apply p1 (hd:=rfl);case hop=>first|(apply D_move;rfl)|(apply D_assign;rfl)|(apply D_pc hpre;rfl;exact .same rfl (.same rfl .nil))|exact D_min rfl rfl|exact D_sc (D_int rfl rfl rfl) g1|(apply D_load1;rfl)|(apply D_fld;rfl)|(apply D_pickT;rfl;rfl)|(apply D_int;rfl;rfl;rfl)|(apply D_ext;rfl;rfl)|(apply D_box;rfl;rfl))
 | refine W_seq ?_
 | refine W_region ?_
 | (refine idC ?_;refine cs rfl (fun _=>?_) (fun _=>?_))
 | refine WL_nil ?_
 | (refine idG ?_;refine g0f rfl rfl rfl ?_)
 | refine tn ?_
 | refine tr ?_
 | refine W_skip ?_
 | refine W_ret ?_
 | (refine idR ?_;refine ret2 rfl rfl rfl rfl ?_ ?_)
 | (refine idA ?_;refine m_alloc rfl ?_)
 | (refine Le.int ?_)
      all_goals first|exact Le.nil rfl|rfl|contradiction|skip
    · have g1 : Value.bool (iLt (min v.up v.af) 0) = .bool false:=by rw [(iLt_f _ _).mpr (by omega)]
      have g2 : Value.bool (iLt 1099511627776 (max v.up v.af)) = .bool true:=by
        rw [(iLt_t _ _).mpr]
        unfold okV at c2
        omega
      repeat' first
 | (apply p1 (hd:=rfl);case hop=>first|(apply D_move;rfl)|(apply D_assign;rfl)|(apply D_pc hpre;rfl;exact .same rfl (.same rfl .nil))|exact D_min rfl rfl|exact D_max rfl rfl|exact D_sc (D_int rfl rfl rfl) g1|exact D_sc (D_int rfl rfl rfl) g2|(apply D_load1;rfl)|(apply D_fld;rfl)|(apply D_pickF;rfl;rfl)|(apply D_int;rfl;rfl;rfl)|(apply D_ext;rfl;rfl)|(apply D_box;rfl;rfl))
 | refine W_seq ?_
 | refine W_region ?_
 | (refine idC ?_;refine cs rfl (fun _=>?_) (fun _=>?_))
 | refine WL_nil ?_
 | (refine idG ?_;refine gr rfl rfl ?_)
 | refine tn ?_
 | refine tr ?_
 | refine W_skip ?_
 | refine W_ret ?_
 | (refine idR ?_;refine ret2 rfl rfl rfl rfl ?_ ?_)
 | (refine idA ?_;refine m_alloc rfl ?_)
 | (refine Le.int ?_)
      all_goals first|exact Le.nil rfl|rfl|contradiction|skip
  rw [if_pos c2] at e1
  have eL : datsL o p v L = (preL o (preB o p) L).filter (seeB v):=by unfold datsL;rw [if_pos e1]
  rw [e1,eL]
  obtain ⟨n,hn⟩ : ∃ n : Nat,o = n:=⟨o.toNat,by have:=(preE_o c1).1;omega⟩
  have ho:=preE_o c1
  have hb:=preB_len o p
  subst hn
  have hbg:=begin_pc x (n : Int) (preB n p)
  have g1 : Value.bool (iLt (min v.up v.af) 0) = .bool false:=by
    rw [(iLt_f _ _).mpr]
    unfold okV at c2
    omega
  have g2 : Value.bool (iLt 1099511627776 (max v.up v.af)) = .bool false:=by
    rw [(iLt_f _ _).mpr]
    unfold okV at c2
    omega
  repeat' first
 | (apply p1 (hd:=rfl);case hop=>first|(apply D_move;rfl)|(apply D_assign;rfl)|(apply D_pc hpre;rfl;exact .same rfl (.same rfl .nil))|exact D_min rfl rfl|exact D_max rfl rfl|exact D_sc (D_int rfl rfl rfl) g1|exact D_sc (D_int rfl rfl rfl) g2|(apply D_pc hbg;rfl;exact .same rfl (.same rfl (.same rfl .nil)))|(apply D_load1;rfl)|(apply D_fld;rfl)|(apply D_pickF;rfl;rfl)|(apply D_int;rfl;rfl;rfl)|(apply D_ext;rfl;rfl)|(apply D_box;rfl;rfl))
 | refine W_seq ?_
 | refine W_region ?_
 | (refine idC ?_;first|refine c0 rfl ?_|refine cs rfl (fun _=>?_) (fun _=>?_))
 | refine WL_nil ?_
 | (refine idG ?_;refine gr rfl rfl ?_)
 | refine tn ?_
 | refine tr ?_
 | refine W_skip ?_
 | refine W_block ?_
 | refine W_ret ?_
 | (refine idR ?_;refine ret2 rfl rfl rfl rfl ?_ ?_)
 | (refine idA ?_;refine m_alloc rfl ?_)
 | (refine Le.int ?_)
  all_goals try contradiction
  have hEl:=preL_len n (preB n p) L
  refine W_adoptC 0 0 9 48 rfl rfl ?_
  refine W_rangeX (.inl rfl) fun l1 X hX=>?_
  generalize hE : preL n (preB n p) L = E at *
  refine AC.mono (begin1_ac x L hx hL hl n (by omega) (preB n p) (by omega) l1 (fun i h=>h = [.cells [.sl (some 1) 9 (((E.take i).filter (seeB v)).map dC)],.tail ((E.take i).filter (seeB v)).length 9 48,rawD,X .ready none]) rfl ?_) ?_
  · rw [hE]
    rintro i hi h rfl
    have hli : ((E.take i).filter (seeB v)).length ≤ i:=Nat.le_trans (List.length_filter_le _ _) (by rw [List.length_take];omega)
    have hts : E.take (i + 1) = E.take i ++ [E[i]'hi]:=List.take_succ_eq_append_getElem hi
    refine YW.round (r:=3) ((show _ = some (X .ready none) from rfl).trans (congrArg some (hX .ready none))) rfl rfl ?_
    repeat' first
 | refine W_region ?_
 | refine WL_nil ?_
 | (refine idA ?_;refine m_var rfl rfl rfl rfl rfl rfl rfl ?_)
    refine ⟨rfl,(show _ = some (X .ready none) from rfl).trans (congrArg some (hX .ready none)),?_⟩
    refine W_hq (h':=[.cells [.sl (some 1) 9 (((E.take i).filter (seeB v)).map dC)],.tail ((E.take i).filter (seeB v)).length 9 48,rawD,X .busy none]) (by rw [hX .busy none];rfl) ?_
    have hT : seeP v (E[i]'hi) → (E.take (i + 1)).filter (seeB v) = (E.take i).filter (seeB v) ++ [E[i]'hi]:=fun h=>by
      rw [hts,List.filter_append,List.filter_cons,if_pos (show seeB v (E[i]'hi) = true from dP_t.mpr h)];rfl
    have hF : ¬ seeP v (E[i]'hi) → (E.take (i + 1)).filter (seeB v) = (E.take i).filter (seeB v):=fun h=>by
      rw [hts,List.filter_append,List.filter_cons,if_neg (show ¬ seeB v (E[i]'hi) = true from fun h2=>h (dP_t.mp h2))];simp
    repeat' first
 | (apply p1 (hd:=rfl);case hop=>first|(apply D_move;rfl)|(apply D_load1;rfl)|(apply D_fld;rfl)|(apply D_pickT;rfl;rfl)|(apply D_pickF;rfl;rfl)|(apply D_int;rfl;rfl;rfl)|(apply D_loadW;rfl;rfl)|(apply D_lit;rfl;rfl;rfl;rfl))
 | refine W_seq ?_
 | refine W_region ?_
 | (refine idC ?_;first|refine c0 rfl ?_|refine cs rfl (fun _=>?_) (fun _=>?_))
 | refine WL_nil ?_
 | (refine idG ?_;first|refine g0t rfl rfl rfl ?_|refine g0f rfl rfl rfl ?_|refine g0u rfl rfl rfl ?_|refine gr rfl rfl ?_|refine gs rfl rfl (fun _=>?_) (fun _=>?_))
 | refine tn ?_
 | refine bn ?_
 | refine W_skip ?_
 | refine W_block ?_
 | (refine idLd ?_;refine p1L (D_loadB1 rfl rfl rfl) rfl ?_)
 | (refine idS ?_;refine pS (S_store rfl rfl rfl rfl rfl rfl rfl) ?_)
 | (refine idAp ?_;refine m_app rfl rfl (by rfl) ?_ rfl rfl ?_ ?_ rfl ?_;(focus (simp;done));(focus (simp only [List.length_map,List.length_append,List.length_cons,List.length_nil];omega));(focus (simp only [List.length_map,List.length_append,List.length_cons,List.length_nil];omega)))
    all_goals first
      | contradiction
      | (have h9 : seeP v (E[i]'hi):=⟨by assumption,by first|exact .inl (by assumption)|exact .inr (by assumption)⟩
         refine ⟨rfl,⟨_,_,(show _ = some (X .busy none) from rfl).trans (congrArg some (hX _ _))⟩,⟨rfl,?_⟩⟩
         rw [show ((E.take (i + 1)).filter (seeB v)).length = ((E.take i).filter (seeB v)).length + 1 by rw [hT h9,List.length_append];rfl,hT h9,← hX .ready none,List.map_append];simp only [List.length_map];rfl)
      | (have h9 : ¬ seeP v (E[i]'hi):=fun h=>by
           have h1:=h.1
           have h2:=h.2
           omega
         refine ⟨rfl,⟨_,_,(show _ = some (X .busy none) from rfl).trans (congrArg some (hX _ _))⟩,⟨rfl,?_⟩⟩
         rw [hF h9,← hX .ready none];rfl)
      | skip
  · rw [hE]
    rintro _ h' rfl
    refine ⟨_,_,(show _ = some (X .ready none) from rfl).trans (congrArg some (hX _ _)),by decide,?_⟩
    repeat' first
 | (apply p1 (hd:=rfl);case hop=>first|(apply D_assign;rfl))
 | refine W_seq ?_
 | refine W_region ?_
 | refine WL_nil ?_
 | refine tn ?_
 | refine bn ?_
 | refine W_ret ?_
 | (refine idR ?_;first|refine rL2 rfl (by first|exact trivial|exact ⟨rfl,trivial⟩) (by exact ResO.tmp rfl) (by exact ResO.tmp rfl) ?_ ?_)
 | (refine idLd ?_;refine p1L (D_loadB1 rfl rfl rfl) rfl ?_)
 | (refine Le.int ?_)
    all_goals first|exact Le.tokq (by rw [List.take_length])|rfl|skip
end Go.Proofs

namespace Go.Proofs
open Go.AL Go.Sort
attribute [local irreducible] Go.AL.W Go.AL.WL Go.AL.WD Go.AL.POp Go.AL.PPOp Go.AL.POpS Go.AL.PC Go.AL.AC Go.AL.YW Go.AL.Ret Go.AL.Le Go.AL.thn Go.AL.inBlk Go.AL.scp
instance : Xt Tryz.prog 252 Extern.BytealgCompare.compare:=⟨run_callFunc_extern Tryz.func252 (by kernel_rfl) (by kernel_rfl) (by kernel_rfl) (by kernel_rfl)⟩
instance (p : Prop) : BP (dP p) p (¬ p):=⟨fun h=>by rwa [dP_t] at h,fun h=>by rwa [dP_f] at h⟩
instance (s : List UInt8) : BP (wordB s) (WordP s) (¬ WordP s):=⟨fun h=>by unfold wordB at h;simpa using h,fun h=>by unfold wordB at h;simpa using h⟩
instance (v : Val) : BP (mayB v) (MayP v) (¬ MayP v):=⟨fun h=>by unfold mayB at h;rwa [dP_t] at h,fun h=>by unfold mayB at h;rwa [dP_f] at h⟩
theorem beg_key {o : Int} {l : List Prt} {d : Dat} (h1 : preE o l = 0) (h2 : dkeyE o d = 0) (il : ∀ p,p ∈ l → prtI p) (id : prtI (prtV d.v)) (in' : i64P d.e ∧ i64P d.a ∧ i64P d.t ∧ i64P d.fr ∧ i64P d.to) : begP o l d ↔ preB o l <+: dkeyB o d:=by
  have hp:=preE_P h1
  have ho:=hp.1
  have hm : dmayP d ∧ hasP o d:=by
    rw [dkeyE,if_pos ho] at h2
    split at h2
    · assumption
    · cases h2
  have hk : ∀ p,p ∈ l → PartP p:=by
    rw [preE,if_pos hp,keyE] at h1
    split at h1
    · assumption
    · cases h1
  have e1 : preB o l = l.flatMap partB:=by rw [preB,if_pos hp,keyB,if_pos hk]
  have e2 : dkeyB o d = (part7 o d).flatMap partB:=by rw [dkeyB,if_pos ho,if_pos hm]
  have hl7 : l.length ≤ (part7 o d).length:=by rw [part7_len];exact Nat.le_trans hp.2.1 (by decide)
  have h0 : i64P val0.n:=by unfold i64P val0;decide
  have hi : ∀ p,p ∈ part7 o d → prtI p:=by
    intro p hp
    simp only [part7,List.mem_cons,List.not_mem_nil,or_false] at hp
    have hadd : i64P (if d.add then 0 else 1):=by unfold i64P;split <;> decide
    rcases hp with rfl|rfl|rfl|rfl|rfl|rfl|rfl
    · unfold fst1;split <;> (try split) <;> (try split) <;> first|exact id|exact ⟨in'.1,h0⟩|exact ⟨in'.2.1,h0⟩
    · unfold fst2;split <;> (try split) <;> (try split) <;> first|exact id|exact ⟨in'.1,h0⟩|exact ⟨in'.2.1,h0⟩
    · unfold fst3;split <;> (try split) <;> (try split) <;> first|exact id|exact ⟨in'.1,h0⟩|exact ⟨in'.2.1,h0⟩
    · exact ⟨in'.2.2.1,h0⟩
    · exact ⟨hadd,h0⟩
    · exact ⟨in'.2.2.2.1,h0⟩
    · exact ⟨in'.2.2.2.2,h0⟩
  rw [e1,e2,key_prefix l (part7 o d) hl7 (fun i h h'=>(hp.2.2 i h h').trans (part7_flag o d i h').symm) (fun p hp=>⟨hk p hp,il p hp⟩) (fun p hp=>⟨part7_P hm.1.2.2.2.2.1 p hp,hi p hp⟩)]
  unfold begP
  exact ⟨fun h=>h.2.2,fun h=>⟨h1,hm.2,h⟩⟩
end Go.Proofs
