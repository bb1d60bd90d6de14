/- The law IndexParts' examples. -/
import Derived.Test.YtjojdiefnhbglaaGreatYI4
import Derived.Test.YtjojdiefnhbglaaGreatOps22
import Derived.Test.YtjojdiefnhbglaaGreatYInst
set_option linter.all false
namespace Go.Proofs
open Go.AL Go.Sort
attribute [local irreducible] Go.AL.W Go.AL.WL Go.AL.WD Go.AL.POp Go.AL.PPOp Go.AL.POpS Go.AL.PC Go.AL.AC Go.AL.YW Go.AL.Ret Go.AL.Le Go.AL.thn Go.AL.inBlk Go.AL.scp
end Go.Proofs

namespace Go.Proofs
open Go.AL Go.Sort
attribute [local irreducible] Go.AL.W Go.AL.WL Go.AL.WD Go.AL.POp Go.AL.PPOp Go.AL.POpS Go.AL.PC Go.AL.AC Go.AL.YW Go.AL.Ret Go.AL.Le Go.AL.thn Go.AL.inBlk Go.AL.scp
end Go.Proofs

namespace Go.Proofs
open Go.AL Go.Sort
attribute [local irreducible] Go.AL.W Go.AL.WL Go.AL.WD Go.AL.POp Go.AL.PPOp Go.AL.POpS Go.AL.PC Go.AL.AC Go.AL.YW Go.AL.Ret Go.AL.Le Go.AL.thn Go.AL.inBlk Go.AL.scp
noncomputable def begB (o : Int) (p : List Prt) (v : Vw) (d : Dat) : Bool:=seeB v d && dP (begP o p d)
theorem datI_v {d : Dat} (h : datI d) : prtI (prtV d.v):=⟨(show i64P 0 by unfold i64P;decide),h.2.2.1⟩
theorem dats_sorted {o : Int} {p : List Prt} {v : Vw} {L : List Dat} (h0 : datsE o p v = 0) (hL : okL L) (ip : ∀ q,q ∈ p → prtI q) : datsL o p v L = dsortL o (L.filter (begB o p v)):=by
  have hp : preE o p = 0:=by
    unfold datsE at h0
    split at h0
    · rename_i h;exact absurd h0 h
    · rename_i h;simpa using h
  have ho:=preE_o hp
  unfold datsL preL
  rw [if_pos h0]
  refine rise_eq (wc_cmpD o) (List.Pairwise.filter _ (List.Pairwise.filter _ (dsort_rise ho L))) (dsort_rise ho _) fun d=>?_
  rw [List.mem_filter,List.mem_filter,dsort_mem ho,dsort_mem ho,List.mem_filter,List.isPrefixOf_iff_prefix]
  have key : d ∈ L → hasP o d → (preB o p <+: dkeyB o d ↔ begP o p d):=fun h1 h2=>by
    have hk : dkeyE o d = 0:=(key_ok ho).2 ⟨(hL d h1).1,h2⟩
    have hi:=(hL d h1).2
    exact (beg_key hp hk ip (datI_v hi) ⟨hi.1,hi.2.1,hi.2.2.2.1,hi.2.2.2.2.1,hi.2.2.2.2.2⟩).symm
  unfold begB
  rw [Bool.and_eq_true,dP_t]
  constructor
  · rintro ⟨⟨⟨h1,h2⟩,h3⟩,h4⟩;exact ⟨⟨h1,h4,(key h1 h2).1 h3⟩,h2⟩
  · rintro ⟨⟨h1,h4,h3⟩,h2⟩;exact ⟨⟨⟨h1,h2⟩,(key h1 h2).2 h3⟩,h4⟩
set_option maxHeartbeats 16000000 in
theorem rdatoms_pc [GlobF Tryz.prog] (l : List Dat) (o : Int) (p : List Prt) (v : Vw) (hL : okL l) (hl : l.length ≤ 1048576) (hb : ∀ d,d ∈ l → d.v.s.length < 9223372036854775808) (hp : p.length < 9223372036854775808) (hs : ∀ q,q ∈ p → q.v.s.length < 9223372036854775808) (ip : ∀ q,q ∈ p → prtI q) :
    PC Tryz.prog 14 [sl9 l,.sc (.int .i64 o),.sl none 5 (p.map pC),eW v] (.tu [sl9 (datsL o p v l),.sc (.int .i64 (datsE o p v))]):=by
  have hpre:=prefix1_pc o p hp hs
  refine PC.of_body Tryz.func14 Tryz.ntmps14 rfl rfl rfl ?_
  by_cases c1 : preE o p = 0
  rotate_left
  · have e1 : datsE o p v = preE o p:=by unfold datsE;rw [if_pos c1]
    rw [show datsL o p v l = [] by unfold datsL;rw [e1,if_neg c1],e1]
    repeat' first
 | (apply p1 (hd:=rfl);case hop=>first|(apply D_move;rfl)|(apply D_assign;rfl)|(apply D_pc hpre;rfl;exact .same rfl (.same rfl .nil))|(apply D_load1;rfl)|(apply D_fld;rfl)|(apply D_pickT;rfl;rfl)|(apply D_pickF;rfl;rfl)|(apply D_int;rfl;rfl;rfl)|(apply D_ext;rfl;rfl)|(apply D_box;rfl;rfl))
 | refine W_seq ?_
 | refine W_region ?_
 | (refine idC ?_;refine cs rfl (fun _=>?_) (fun _=>?_))
 | refine WL_nil ?_
 | (refine idG ?_;first|refine g0f rfl rfl rfl ?_|refine gr rfl rfl ?_|refine gs rfl rfl (fun _=>?_) (fun _=>?_))
 | refine tn ?_
 | refine tr ?_
 | refine W_skip ?_
 | refine W_block ?_
 | refine W_ret ?_
 | (refine idR ?_;refine ret2 rfl rfl rfl rfl ?_ ?_)
 | (refine Le.int ?_)
    all_goals first|exact Le.nil rfl|rfl|contradiction|skip
  have e1 : datsE o p v = if okV v then 0 else 2:=by unfold datsE;rw [if_neg (by simpa using c1)]
  rw [c1] at hpre
  by_cases c2 : okV v
  rotate_left
  · rw [if_neg c2] at e1
    rw [show datsL o p v l = [] by unfold datsL;rw [e1,if_neg (by decide)],e1]
    unfold okV at c2
    repeat' first
 | (apply p1 (hd:=rfl);case hop=>first|(apply D_move;rfl)|(apply D_assign;rfl)|(apply D_pc hpre;rfl;exact .same rfl (.same rfl .nil))|(apply D_load1;rfl)|(apply D_fld;rfl)|(apply D_pickT;rfl;rfl)|(apply D_pickF;rfl;rfl)|(apply D_int;rfl;rfl;rfl)|(apply D_ext;rfl;rfl)|(apply D_box;rfl;rfl))
 | refine W_seq ?_
 | refine W_region ?_
 | (refine idC ?_;refine cs rfl (fun _=>?_) (fun _=>?_))
 | refine WL_nil ?_
 | (refine idG ?_;first|refine g0f rfl rfl rfl ?_|refine gr rfl rfl ?_|refine gs rfl rfl (fun _=>?_) (fun _=>?_))
 | refine tn ?_
 | refine tr ?_
 | refine W_skip ?_
 | refine W_block ?_
 | refine W_ret ?_
 | (refine idR ?_;refine ret2 rfl rfl rfl rfl ?_ ?_)
 | (refine Le.int ?_)
    all_goals first|exact Le.nil rfl|rfl|contradiction|(exfalso;omega)|skip
  rw [if_pos c2] at e1
  have ho:=preE_o c1
  rw [e1,dats_sorted e1 hL ip]
  unfold okV at c2
  repeat' first
 | (apply p1 (hd:=rfl);case hop=>first|(apply D_move;rfl)|(apply D_assign;rfl)|(apply D_pc hpre;rfl;exact .same rfl (.same rfl .nil))|(apply D_load1;rfl)|(apply D_fld;rfl)|(apply D_pickT;rfl;rfl)|(apply D_pickF;rfl;rfl)|(apply D_int;rfl;rfl;rfl)|(apply D_ext;rfl;rfl)|(apply D_box;rfl;rfl))
 | refine W_seq ?_
 | refine W_region ?_
 | (refine idC ?_;refine cs rfl (fun _=>?_) (fun _=>?_))
 | refine WL_nil ?_
 | (refine idG ?_;first|refine g0f rfl rfl rfl ?_|refine gr rfl rfl ?_|refine gs rfl rfl (fun _=>?_) (fun _=>?_))
 | refine tn ?_
 | refine tr ?_
 | refine W_skip ?_
 | refine W_block ?_
 | refine W_ret ?_
 | (refine idR ?_;refine ret2 rfl rfl rfl rfl ?_ ?_)
 | (refine Le.int ?_)
  all_goals try (exfalso;first|contradiction|omega)
  refine W_adopt 12 9 48 rfl ?_
  refine W_loopL (X:=Nat) (fun i=>[(0,sl9 l),(1,.sc (.int .i64 o)),(2,.sl none 5 (p.map pC)),(7,.ep (wC v)),(12,.sl (some 0) 9 (((l.take i).filter (begB o p v)).map dC)),(13,.sc (.int .i64 (i : Int)))]) (fun i=>[.tail ((l.take i).filter (begB o p v)).length 9 48])
    (fun i=>i ≤ l.length) (fun i=>l.length - i) 0 (Nat.zero_le _) ⟨rfl,rfl,rfl,rfl,rfl,rfl,trivial⟩ rfl ?_
  intro i hi
  have hli : ((l.take i).filter (begB o p v)).length ≤ i:=Nat.le_trans (List.length_filter_le _ _) (by rw [List.length_take];omega)
  by_cases hil : i < l.length
  · have hbg:=begins1_pc o p (l[i]'hil) hp hs
    have hts : l.take (i + 1) = l.take i ++ [l[i]'hil]:=List.take_succ_eq_append_getElem hil
    have hT : begB o p v (l[i]'hil) = true → (l.take (i + 1)).filter (begB o p v) = (l.take i).filter (begB o p v) ++ [l[i]'hil]:=fun h=>by
      rw [hts,List.filter_append,List.filter_cons,if_pos h];rfl
    have hF : ¬ begB o p v (l[i]'hil) = true → (l.take (i + 1)).filter (begB o p v) = (l.take i).filter (begB o p v):=fun h=>by
      rw [hts,List.filter_append,List.filter_cons,if_neg h];simp
    have hbb : begB o p v (l[i]'hil) = true ↔ seeP v (l[i]'hil) ∧ dP (begP o p (l[i]'hil)) = true:=by unfold begB seeB;rw [Bool.and_eq_true,dP_t]
    generalize dP (begP o p (l[i]'hil)) = bb at *
    cases bb
    all_goals
      repeat' first
 | (apply p1 (hd:=rfl);case hop=>first|(apply D_move;rfl)|(apply D_assign;rfl)|(apply D_int;rfl;rfl;rfl)|(apply D_lenM;rfl)|(apply D_loadW;rfl;rfl)|(apply D_idxAn;rfl;rfl;(first|omega|(simp;done)))|(apply D_lit;rfl;rfl;rfl;rfl))
 | refine W_seq ?_
 | refine W_region ?_
 | (refine idC ?_;first|refine c0 rfl ?_|refine cs rfl (fun _=>?_) (fun _=>?_))
 | refine WL_nil ?_
 | refine tn ?_
 | refine bn ?_
 | refine te ?_
 | (refine idB ?_;refine bh rfl ?_)
 | refine W_skip ?_
 | refine W_block ?_
 | refine W_exit ?_
 | (refine idAp ?_;refine m_app rfl rfl (by rfl) ?_ rfl rfl ?_ ?_ rfl ?_;(focus (simp;done));(focus (simp only [List.length_map,List.length_append,List.length_cons,List.length_nil];omega));(focus (simp only [List.length_map,List.length_append,List.length_cons,List.length_nil];omega)))
 | (refine idW ?_;refine W_draw0 rfl ?_)
 | (apply d1 (hd:=rfl);case hop=>first|(apply D_move;rfl)|(apply D_pc hbg;rfl;exact .same rfl (.same rfl (.same rfl .nil)))|(apply D_load1;rfl)|(apply D_fld;rfl)|(apply D_pickT;rfl;rfl)|(apply D_pickF;rfl;rfl)|(apply D_int;rfl;rfl;rfl)|(apply D_loadW;rfl;rfl)|(apply D_idxAn;rfl;rfl;(first|omega|(simp;done))))
 | (refine idDg ?_;first|refine dg0t rfl rfl rfl ?_|refine dg0f rfl rfl rfl ?_|refine dg0u rfl rfl rfl ?_|refine dgr rfl rfl ?_|refine dgs rfl rfl (fun _=>?_) (fun _=>?_))
 | (refine WD_nil (by first|decide +kernel|kernel_rfl|rfl) ?_)
    all_goals first
      | contradiction
      | (exfalso;omega)
      | (have h9:=hbb.2 ⟨⟨by assumption,by first|exact .inl (by assumption)|exact .inr (by assumption)⟩,rfl⟩
         refine ⟨rfl,i + 1,hil,by omega,⟨rfl,rfl,rfl,rfl,?_,ieq (wsucc i (by omega)),trivial⟩,?_⟩
         · rw [hT h9,List.map_append];rfl
         · rw [hT h9,List.length_append];simp only [List.length_map];rfl)
      | (have h9 : ¬ begB o p v (l[i]'hil) = true:=fun h=>by
           obtain ⟨⟨h1,h2⟩,h3⟩:=hbb.1 h
           first|exact absurd h3 (by decide)|(unfold seeP at *;omega)|omega
         refine ⟨rfl,i + 1,hil,by omega,⟨rfl,rfl,rfl,rfl,?_,ieq (wsucc i (by omega)),trivial⟩,?_⟩
         · rw [hF h9];rfl
         · rw [hF h9])
      | skip
  · rw [List.take_of_length_le (show l.length ≤ i by omega)]
    have hsr:=dsort1_pc o (l.filter (begB o p v)) (by have:=List.length_filter_le (begB o p v) l;omega) (fun d hd=>hb d (List.mem_filter.1 hd).1)
    repeat' first
 | (apply p1 (hd:=rfl);case hop=>first|(apply D_move;rfl)|(apply D_assign;rfl)|(apply D_pc hsr;rfl;exact .same rfl (.tok rfl .nil))|(apply D_int;rfl;rfl;rfl)|(apply D_lenM;rfl))
 | refine W_seq ?_
 | refine W_region ?_
 | (refine idC ?_;first|refine c0 rfl ?_|refine cs rfl (fun _=>?_) (fun _=>?_))
 | refine WL_nil ?_
 | refine tn ?_
 | refine bn ?_
 | refine te ?_
 | (refine idB ?_;refine bh rfl ?_)
 | refine W_skip ?_
 | refine W_block ?_
 | refine W_exit ?_
 | refine W_ret ?_
 | (refine idR ?_;refine ret2 rfl rfl rfl rfl ?_ ?_)
 | refine Le.int ?_
 | (refine idW ?_;refine W_draw0 rfl ?_)
 | (apply d1 (hd:=rfl);case hop=>first|(apply D_move;rfl)|(apply D_load1;rfl)|(apply D_fld;rfl)|(apply D_pickT;rfl;rfl)|(apply D_pickF;rfl;rfl)|(apply D_int;rfl;rfl;rfl)|(apply D_loadW;rfl;rfl)|(apply D_idxAn;rfl;rfl;(first|omega|(simp;done))))
 | (refine idDg ?_;first|refine dg0t rfl rfl rfl ?_|refine dg0f rfl rfl rfl ?_|refine dg0u rfl rfl rfl ?_|refine dgr rfl rfl ?_|refine dgs rfl rfl (fun _=>?_) (fun _=>?_))
 | (refine WD_nil (by first|decide +kernel|kernel_rfl|rfl) ?_)
    all_goals first|exact Le.of_eq rfl|rfl|(exfalso;omega)|skip
end Go.Proofs

namespace Go.Proofs
open Go.Shelf
def Tryz.laysSS_ren : Go.Shelf.Ren:=⟨fun|6=>228|15=>104|14=>251|28=>162|29=>163|20=>256|21=>257|22=>258|23=>259|24=>260|25=>261|26=>262|27=>263|46=>265|47=>208|48=>209|49=>266|50=>267|57=>268|n=>n,fun|22=>52|24=>62|25=>288|3=>3|39=>180|0=>0|53=>232|55=>234|4=>4|46=>226|45=>225|50=>148|5=>5|9=>9|66=>265|70=>269|76=>292|77=>293|n=>n,fun|n=>n⟩
theorem Tryz.laysSS : Go.Proofs.SlLaysF0.n6 Tryz.prog Tryz.laysSS_ren:={
  mixed:=by kernel_rfl
  f6:=⟨Tryz.f228.name,by decide,Tryz.func228.trans (congrArg some (by kernel_rfl))⟩
  f14:=⟨Tryz.f251.name,by decide,Tryz.func251.trans (congrArg some (by kernel_rfl))⟩
  f15:=Tryz.func104.trans (congrArg some (by kernel_rfl))
  f20:=⟨Tryz.f256.name,by decide,Tryz.func256.trans (congrArg some (by kernel_rfl))⟩
  f21:=⟨Tryz.f257.name,by decide,Tryz.func257.trans (congrArg some (by kernel_rfl))⟩
  f22:=⟨Tryz.f258.name,by decide,Tryz.func258.trans (congrArg some (by kernel_rfl))⟩
  f23:=⟨Tryz.f259.name,by decide,Tryz.func259.trans (congrArg some (by kernel_rfl))⟩
  f24:=⟨Tryz.f260.name,by decide,Tryz.func260.trans (congrArg some (by kernel_rfl))⟩
  f25:=⟨Tryz.f261.name,by decide,Tryz.func261.trans (congrArg some (by kernel_rfl))⟩
  f26:=⟨Tryz.f262.name,by decide,Tryz.func262.trans (congrArg some (by kernel_rfl))⟩
  f27:=⟨Tryz.f263.name,by decide,Tryz.func263.trans (congrArg some (by kernel_rfl))⟩
  f28:=Tryz.func162.trans (congrArg some (by kernel_rfl))
  f29:=Tryz.func163.trans (congrArg some (by kernel_rfl))
  f46:=⟨Tryz.f265.name,by decide,Tryz.func265.trans (congrArg some (by kernel_rfl))⟩
  f47:=Tryz.func208.trans (congrArg some (by kernel_rfl))
  f48:=Tryz.func209.trans (congrArg some (by kernel_rfl))
  f49:=⟨Tryz.f266.name,by decide,Tryz.func266.trans (congrArg some (by kernel_rfl))⟩
  f50:=⟨Tryz.f267.name,by decide,Tryz.func267.trans (congrArg some (by kernel_rfl))⟩
  f57:=⟨Tryz.f268.name,by decide,Tryz.func268.trans (congrArg some (by kernel_rfl))⟩
  t0:=Tryz.underlying0
  a0:=Tryz.isAgg0
  z0:=Tryz.sizeOf0
  v0:=Tryz.zeroValue0
  t3:=Tryz.underlying3
  a3:=Tryz.isAgg3
  z3:=Tryz.sizeOf3
  v3:=Tryz.zeroValue3
  t4:=Tryz.underlying4
  a4:=Tryz.isAgg4
  z4:=Tryz.sizeOf4
  v4:=Tryz.zeroValue4
  t5:=Tryz.underlying5
  a5:=Tryz.isAgg5
  z5:=Tryz.sizeOf5
  v5:=Tryz.zeroValue5
  t9:=Tryz.underlying9
  a9:=Tryz.isAgg9
  z9:=Tryz.sizeOf9
  v9:=Tryz.zeroValue9
  t22:=Tryz.underlying52
  a22:=Tryz.isAgg52
  z22:=Tryz.sizeOf52
  v22:=Tryz.zeroValue52
  t25:=Tryz.underlying288
  a25:=Tryz.isAgg288
  z25:=Tryz.sizeOf288
  v25:=Tryz.zeroValue288
  t39:=Tryz.underlying180
  a39:=Tryz.isAgg180
  z39:=Tryz.sizeOf180
  v39:=Tryz.zeroValue180
  t45:=Tryz.underlying225
  a45:=Tryz.isAgg225
  z45:=Tryz.sizeOf225
  v45:=Tryz.zeroValue225
  t46:=Tryz.underlying226
  a46:=Tryz.isAgg226
  z46:=Tryz.sizeOf226
  v46:=Tryz.zeroValue226
  t50:=Tryz.underlying148
  a50:=Tryz.isAgg148
  z50:=Tryz.sizeOf148
  v50:=Tryz.zeroValue148
  t53:=Tryz.underlying232
  a53:=Tryz.isAgg232
  z53:=Tryz.sizeOf232
  v53:=Tryz.zeroValue232
  t55:=Tryz.underlying234
  a55:=Tryz.isAgg234
  z55:=Tryz.sizeOf234
  v55:=Tryz.zeroValue234
  t66:=Tryz.underlying265
  a66:=Tryz.isAgg265
  z66:=Tryz.sizeOf265
  v66:=Tryz.zeroValue265
  t70:=Tryz.underlying269
  a70:=Tryz.isAgg269
  z70:=Tryz.sizeOf269
  v70:=Tryz.zeroValue269
  t76:=Tryz.underlying292
  a76:=Tryz.isAgg292
  z76:=Tryz.sizeOf292
  v76:=Tryz.zeroValue292
  t77:=Tryz.underlying293
  a77:=Tryz.isAgg293
  z77:=Tryz.sizeOf293
  v77:=Tryz.zeroValue293 }
def Tryz.laysSD_ren : Go.Shelf.Ren:=⟨fun|6=>83|15=>104|14=>135|28=>162|29=>163|20=>187|21=>188|22=>189|23=>190|24=>191|25=>192|26=>193|27=>194|46=>223|47=>208|48=>209|49=>224|50=>225|57=>249|n=>n,fun|22=>22|24=>48|25=>157|3=>3|39=>180|0=>0|53=>232|55=>234|4=>4|46=>226|45=>225|50=>148|5=>5|9=>9|66=>265|70=>269|76=>292|77=>293|n=>n,fun|n=>n⟩
theorem Tryz.laysSD : Go.Proofs.SlLaysF0.n6 Tryz.prog Tryz.laysSD_ren:={
  mixed:=by kernel_rfl
  f6:=⟨Tryz.f83.name,by decide,Tryz.func83.trans (congrArg some (by kernel_rfl))⟩
  f14:=⟨Tryz.f135.name,by decide,Tryz.func135.trans (congrArg some (by kernel_rfl))⟩
  f15:=Tryz.func104.trans (congrArg some (by kernel_rfl))
  f20:=⟨Tryz.f187.name,by decide,Tryz.func187.trans (congrArg some (by kernel_rfl))⟩
  f21:=⟨Tryz.f188.name,by decide,Tryz.func188.trans (congrArg some (by kernel_rfl))⟩
  f22:=⟨Tryz.f189.name,by decide,Tryz.func189.trans (congrArg some (by kernel_rfl))⟩
  f23:=⟨Tryz.f190.name,by decide,Tryz.func190.trans (congrArg some (by kernel_rfl))⟩
  f24:=⟨Tryz.f191.name,by decide,Tryz.func191.trans (congrArg some (by kernel_rfl))⟩
  f25:=⟨Tryz.f192.name,by decide,Tryz.func192.trans (congrArg some (by kernel_rfl))⟩
  f26:=⟨Tryz.f193.name,by decide,Tryz.func193.trans (congrArg some (by kernel_rfl))⟩
  f27:=⟨Tryz.f194.name,by decide,Tryz.func194.trans (congrArg some (by kernel_rfl))⟩
  f28:=Tryz.func162.trans (congrArg some (by kernel_rfl))
  f29:=Tryz.func163.trans (congrArg some (by kernel_rfl))
  f46:=⟨Tryz.f223.name,by decide,Tryz.func223.trans (congrArg some (by kernel_rfl))⟩
  f47:=Tryz.func208.trans (congrArg some (by kernel_rfl))
  f48:=Tryz.func209.trans (congrArg some (by kernel_rfl))
  f49:=⟨Tryz.f224.name,by decide,Tryz.func224.trans (congrArg some (by kernel_rfl))⟩
  f50:=⟨Tryz.f225.name,by decide,Tryz.func225.trans (congrArg some (by kernel_rfl))⟩
  f57:=⟨Tryz.f249.name,by decide,Tryz.func249.trans (congrArg some (by kernel_rfl))⟩
  t0:=Tryz.underlying0
  a0:=Tryz.isAgg0
  z0:=Tryz.sizeOf0
  v0:=Tryz.zeroValue0
  t3:=Tryz.underlying3
  a3:=Tryz.isAgg3
  z3:=Tryz.sizeOf3
  v3:=Tryz.zeroValue3
  t4:=Tryz.underlying4
  a4:=Tryz.isAgg4
  z4:=Tryz.sizeOf4
  v4:=Tryz.zeroValue4
  t5:=Tryz.underlying5
  a5:=Tryz.isAgg5
  z5:=Tryz.sizeOf5
  v5:=Tryz.zeroValue5
  t9:=Tryz.underlying9
  a9:=Tryz.isAgg9
  z9:=Tryz.sizeOf9
  v9:=Tryz.zeroValue9
  t22:=Tryz.underlying22
  a22:=Tryz.isAgg22
  z22:=Tryz.sizeOf22
  v22:=Tryz.zeroValue22
  t25:=Tryz.underlying157
  a25:=Tryz.isAgg157
  z25:=Tryz.sizeOf157
  v25:=Tryz.zeroValue157
  t39:=Tryz.underlying180
  a39:=Tryz.isAgg180
  z39:=Tryz.sizeOf180
  v39:=Tryz.zeroValue180
  t45:=Tryz.underlying225
  a45:=Tryz.isAgg225
  z45:=Tryz.sizeOf225
  v45:=Tryz.zeroValue225
  t46:=Tryz.underlying226
  a46:=Tryz.isAgg226
  z46:=Tryz.sizeOf226
  v46:=Tryz.zeroValue226
  t50:=Tryz.underlying148
  a50:=Tryz.isAgg148
  z50:=Tryz.sizeOf148
  v50:=Tryz.zeroValue148
  t53:=Tryz.underlying232
  a53:=Tryz.isAgg232
  z53:=Tryz.sizeOf232
  v53:=Tryz.zeroValue232
  t55:=Tryz.underlying234
  a55:=Tryz.isAgg234
  z55:=Tryz.sizeOf234
  v55:=Tryz.zeroValue234
  t66:=Tryz.underlying265
  a66:=Tryz.isAgg265
  z66:=Tryz.sizeOf265
  v66:=Tryz.zeroValue265
  t70:=Tryz.underlying269
  a70:=Tryz.isAgg269
  z70:=Tryz.sizeOf269
  v70:=Tryz.zeroValue269
  t76:=Tryz.underlying292
  a76:=Tryz.isAgg292
  z76:=Tryz.sizeOf292
  v76:=Tryz.zeroValue292
  t77:=Tryz.underlying293
  a77:=Tryz.isAgg293
  z77:=Tryz.sizeOf293
  v77:=Tryz.zeroValue293 }
def Tryz.laysSF_ren : Go.Shelf.Ren:=⟨fun|6=>48|15=>104|14=>103|28=>162|29=>163|20=>154|21=>155|22=>156|23=>157|24=>158|25=>159|26=>160|27=>161|46=>207|47=>208|48=>209|49=>210|50=>211|57=>233|n=>n,fun|22=>36|24=>54|25=>114|3=>3|39=>180|0=>0|53=>232|55=>234|4=>4|46=>226|45=>225|50=>148|5=>5|9=>9|66=>265|70=>269|76=>292|77=>293|n=>n,fun|n=>n⟩
theorem Tryz.laysSF : Go.Proofs.SlLaysF0.n6 Tryz.prog Tryz.laysSF_ren:={
  mixed:=by kernel_rfl
  f6:=⟨Tryz.f48.name,by decide,Tryz.func48.trans (congrArg some (by kernel_rfl))⟩
  f14:=⟨Tryz.f103.name,by decide,Tryz.func103.trans (congrArg some (by kernel_rfl))⟩
  f15:=Tryz.func104.trans (congrArg some (by kernel_rfl))
  f20:=⟨Tryz.f154.name,by decide,Tryz.func154.trans (congrArg some (by kernel_rfl))⟩
  f21:=⟨Tryz.f155.name,by decide,Tryz.func155.trans (congrArg some (by kernel_rfl))⟩
  f22:=⟨Tryz.f156.name,by decide,Tryz.func156.trans (congrArg some (by kernel_rfl))⟩
  f23:=⟨Tryz.f157.name,by decide,Tryz.func157.trans (congrArg some (by kernel_rfl))⟩
  f24:=⟨Tryz.f158.name,by decide,Tryz.func158.trans (congrArg some (by kernel_rfl))⟩
  f25:=⟨Tryz.f159.name,by decide,Tryz.func159.trans (congrArg some (by kernel_rfl))⟩
  f26:=⟨Tryz.f160.name,by decide,Tryz.func160.trans (congrArg some (by kernel_rfl))⟩
  f27:=⟨Tryz.f161.name,by decide,Tryz.func161.trans (congrArg some (by kernel_rfl))⟩
  f28:=Tryz.func162.trans (congrArg some (by kernel_rfl))
  f29:=Tryz.func163.trans (congrArg some (by kernel_rfl))
  f46:=⟨Tryz.f207.name,by decide,Tryz.func207.trans (congrArg some (by kernel_rfl))⟩
  f47:=Tryz.func208.trans (congrArg some (by kernel_rfl))
  f48:=Tryz.func209.trans (congrArg some (by kernel_rfl))
  f49:=⟨Tryz.f210.name,by decide,Tryz.func210.trans (congrArg some (by kernel_rfl))⟩
  f50:=⟨Tryz.f211.name,by decide,Tryz.func211.trans (congrArg some (by kernel_rfl))⟩
  f57:=⟨Tryz.f233.name,by decide,Tryz.func233.trans (congrArg some (by kernel_rfl))⟩
  t0:=Tryz.underlying0
  a0:=Tryz.isAgg0
  z0:=Tryz.sizeOf0
  v0:=Tryz.zeroValue0
  t3:=Tryz.underlying3
  a3:=Tryz.isAgg3
  z3:=Tryz.sizeOf3
  v3:=Tryz.zeroValue3
  t4:=Tryz.underlying4
  a4:=Tryz.isAgg4
  z4:=Tryz.sizeOf4
  v4:=Tryz.zeroValue4
  t5:=Tryz.underlying5
  a5:=Tryz.isAgg5
  z5:=Tryz.sizeOf5
  v5:=Tryz.zeroValue5
  t9:=Tryz.underlying9
  a9:=Tryz.isAgg9
  z9:=Tryz.sizeOf9
  v9:=Tryz.zeroValue9
  t22:=Tryz.underlying36
  a22:=Tryz.isAgg36
  z22:=Tryz.sizeOf36
  v22:=Tryz.zeroValue36
  t25:=Tryz.underlying114
  a25:=Tryz.isAgg114
  z25:=Tryz.sizeOf114
  v25:=Tryz.zeroValue114
  t39:=Tryz.underlying180
  a39:=Tryz.isAgg180
  z39:=Tryz.sizeOf180
  v39:=Tryz.zeroValue180
  t45:=Tryz.underlying225
  a45:=Tryz.isAgg225
  z45:=Tryz.sizeOf225
  v45:=Tryz.zeroValue225
  t46:=Tryz.underlying226
  a46:=Tryz.isAgg226
  z46:=Tryz.sizeOf226
  v46:=Tryz.zeroValue226
  t50:=Tryz.underlying148
  a50:=Tryz.isAgg148
  z50:=Tryz.sizeOf148
  v50:=Tryz.zeroValue148
  t53:=Tryz.underlying232
  a53:=Tryz.isAgg232
  z53:=Tryz.sizeOf232
  v53:=Tryz.zeroValue232
  t55:=Tryz.underlying234
  a55:=Tryz.isAgg234
  z55:=Tryz.sizeOf234
  v55:=Tryz.zeroValue234
  t66:=Tryz.underlying265
  a66:=Tryz.isAgg265
  z66:=Tryz.sizeOf265
  v66:=Tryz.zeroValue265
  t70:=Tryz.underlying269
  a70:=Tryz.isAgg269
  z70:=Tryz.sizeOf269
  v70:=Tryz.zeroValue269
  t76:=Tryz.underlying292
  a76:=Tryz.isAgg292
  z76:=Tryz.sizeOf292
  v76:=Tryz.zeroValue292
  t77:=Tryz.underlying293
  a77:=Tryz.isAgg293
  z77:=Tryz.sizeOf293
  v77:=Tryz.zeroValue293 }
def Tryz.laysGS_ren : Go.Shelf.Ren:=⟨fun|4=>230|n=>n,fun|22=>52|25=>62|3=>3|4=>4|9=>9|20=>20|0=>0|2=>2|n=>n,fun|n=>n⟩
theorem Tryz.laysGS : Go.Proofs.Lays8.n4 Tryz.prog Tryz.laysGS_ren:={
  mixed:=by kernel_rfl
  f4:=⟨Tryz.f230.name,by decide,Tryz.func230.trans (congrArg some (by kernel_rfl))⟩
  t0:=Tryz.underlying0
  a0:=Tryz.isAgg0
  z0:=Tryz.sizeOf0
  v0:=Tryz.zeroValue0
  t3:=Tryz.underlying3
  a3:=Tryz.isAgg3
  z3:=Tryz.sizeOf3
  v3:=Tryz.zeroValue3
  t4:=Tryz.underlying4
  a4:=Tryz.isAgg4
  z4:=Tryz.sizeOf4
  v4:=Tryz.zeroValue4
  t9:=Tryz.underlying9
  a9:=Tryz.isAgg9
  z9:=Tryz.sizeOf9
  v9:=Tryz.zeroValue9
  t20:=Tryz.underlying20
  a20:=Tryz.isAgg20
  z20:=Tryz.sizeOf20
  v20:=Tryz.zeroValue20
  t22:=Tryz.underlying52
  a22:=Tryz.isAgg52
  z22:=Tryz.sizeOf52
  v22:=Tryz.zeroValue52 }
end Go.Proofs
