
/- Contracts of the document's datoms: keys, prefixes, sorted; how two stand. -/
import Derived.Test.YtjojdiefnhbglaaGreatYD2
import Derived.Test.YtjojdiefnhbglaaGreatOps22
import Derived.Test.YtjojdiefnhbglaaGreatYInst
set_option linter.all false
namespace Go.Proofs
open Go.AL Go.Sort
attribute [local irreducible] Go.AL.W Go.AL.WL Go.AL.WD Go.AL.POp Go.AL.PPOp Go.AL.POpS Go.AL.PC Go.AL.AC Go.AL.YW Go.AL.Ret Go.AL.Le Go.AL.thn Go.AL.inBlk Go.AL.scp
instance : Xt Tryz.prog 252 Extern.BytealgCompare.compare:=⟨run_callFunc_extern Tryz.func252 (by kernel_rfl) (by kernel_rfl) (by kernel_rfl) (by kernel_rfl)⟩
instance (p : Prop) : BP (dP p) p (¬ p):=⟨fun h=>by rwa [dP_t] at h,fun h=>by rwa [dP_f] at h⟩
instance (s : List UInt8) : BP (wordB s) (WordP s) (¬ WordP s):=⟨fun h=>by unfold wordB at h;simpa using h,fun h=>by unfold wordB at h;simpa using h⟩
instance (v : Val) : BP (mayB v) (MayP v) (¬ MayP v):=⟨fun h=>by unfold mayB at h;rwa [dP_t] at h,fun h=>by unfold mayB at h;rwa [dP_f] at h⟩
noncomputable instance : DecidableEq Val:=fun _ _=>Classical.propDecidable _
instance : Inhabited Val:=⟨val0⟩
def encD (d : Dat) : List Value:=[.int .i64 d.e,.int .i64 d.a,.int .i64 d.v.kind,.int .i64 d.v.n,.string ⟨d.v.s.toArray⟩,.int .i64 d.t,.bool d.add,.int .i64 d.fr,.int .i64 d.to]
instance : Inhabited Dat:=⟨dat0⟩
theorem encD_inj {a b : Dat} (h : encD a = encD b) : a = b:=by
  obtain ⟨e,c,⟨k,n,s⟩,t,ad,fr,to⟩:=a
  obtain ⟨e',c',⟨k',n',s'⟩,t',ad',fr',to'⟩:=b
  simp [encD] at h
  obtain ⟨h1,h2,h3,h4,h5,h6,h7,h8,h9⟩:=h
  subst h1;subst h2;subst h3;subst h4;subst h5;subst h6;subst h7;subst h8;subst h9;rfl
noncomputable def hasB (o : Int) (d : Dat) : Bool:=dP (hasP o d)
theorem filt_succ {α : Type} (p : α → Bool) (l : List α) (j : Nat) (h : j < l.length) : (l.take (j + 1)).filter p = (l.take j).filter p ++ (if p l[j] then [l[j]] else []):=by
  rw [List.take_succ_eq_append_getElem h,List.filter_append]
  congr 1
  simp only [List.filter_cons,List.filter_nil]
open Classical in
noncomputable def dsortL (o : Int) (l : List Dat) : List Dat:=if 1 ≤ o ∧ o ≤ 4 then sortC (cmpD o) (l.filter (hasB o)) else []
theorem dsortL_len (o : Int) (l : List Dat) : (dsortL o l).length ≤ l.length:=by
  unfold dsortL
  split
  · exact Nat.le_trans (sortC_len _ _) (List.length_filter_le _ _)
  · exact Nat.zero_le _
noncomputable instance : DecidableEq Dat:=fun _ _=>Classical.propDecidable _
def grS : Int → List Dat → Int
  | n,[]=>n
  | n,d :: t=>grS (IntKind.i64.wrap (IntKind.i64.wrap (n + 20) + d.v.s.length)) t
theorem grS_snoc (n : Int) (l : List Dat) (d : Dat) : grS n (l ++ [d]) = IntKind.i64.wrap (IntKind.i64.wrap (grS n l + 20) + d.v.s.length):=by
  induction l generalizing n with
  | nil=>rfl
  | cons x t ih=>rw [List.cons_append];simp only [grS];exact ih _
set_option maxHeartbeats 4000000 in
theorem great_pc [GlobF Tryz.prog] (l : List Dat) (hl : l.length < 4611686018427387904) : PC Tryz.prog 10 [.sl none 9 (l.map dC)] (.sc (.int .i64 (if 4000 < grS 0 l then 1 else 0))):=by
  refine PC.of_body Tryz.func10 Tryz.ntmps10 rfl rfl rfl ?_
  repeat' first
 | (apply p1 (hd:=rfl);case hop=>first|(apply D_assign;rfl))
 | refine W_seq ?_
 | refine W_region ?_
 | refine WL_nil ?_
 | refine tn ?_
 | (refine W_block ?_)
  refine W_loopL (X:=Nat) (fun i=>[(0,.sl none 9 (l.map dC)),(3,.sc (.int .i64 (grS 0 (l.take i)))),(4,.sc (.int .i64 (i : Int)))]) (fun _=>[])
    (fun i=>i ≤ l.length) (fun i=>l.length - i) 0 (Nat.zero_le _) ⟨rfl,rfl,rfl,trivial⟩ rfl ?_
  intro i hi
  repeat' first
 | (apply p1 (hd:=rfl);case hop=>first|(apply D_move;rfl)|(apply D_assign;rfl)|(apply D_load1;rfl)|(apply D_fld;rfl)|(apply D_int;rfl;rfl;rfl)|(apply D_lenM;rfl)|(apply D_len_str;rfl)|(apply D_idxAn;rfl;rfl;(first|omega|(simp;done))))
 | refine W_seq ?_
 | refine W_region ?_
 | (refine idC ?_;refine cs rfl (fun _=>?_) (fun _=>?_))
 | refine WL_nil ?_
 | refine tn ?_
 | refine tr ?_
 | refine bn ?_
 | refine te ?_
 | (refine idB ?_;refine bh rfl ?_)
 | refine W_skip ?_
 | refine W_block ?_
 | refine W_exit ?_
 | refine W_ret ?_
 | (refine idR ?_;refine ret1 rfl rfl rfl ?_)
 | (refine Le.int ?_)
  · have hi1 : i < l.length:=by omega
    refine ⟨rfl,i + 1,by omega,by omega,⟨rfl,ieq ?_,ieq (wsucc i (by omega)),trivial⟩,rfl⟩
    rw [List.take_succ_eq_append_getElem hi1,grS_snoc]
  · rename_i h1 h2
    have e : i = l.length:=by omega
    subst e
    rw [List.take_length] at h2
    rw [if_pos (by omega)]
  · rename_i h1 h2
    have e : i = l.length:=by omega
    subst e
    rw [List.take_length] at h2
    rw [if_neg (by omega)]
end Go.Proofs

namespace Go.Proofs
open Go.Shelf
def Tryz.laysSS_ren : Go.Shelf.Ren:=⟨fun|6=>228|15=>104|14=>251|28=>162|29=>163|20=>256|21=>257|22=>258|23=>259|24=>260|25=>261|26=>262|27=>263|46=>265|47=>208|48=>209|49=>266|50=>267|57=>268|n=>n,fun|22=>52|24=>62|25=>288|3=>3|39=>180|0=>0|53=>232|55=>234|4=>4|46=>226|45=>225|50=>148|5=>5|9=>9|66=>265|70=>269|76=>292|77=>293|n=>n,fun|n=>n⟩
theorem Tryz.laysSS : Go.Proofs.SlLaysF0.n6 Tryz.prog Tryz.laysSS_ren:={
  mixed:=by kernel_rfl
  f6:=⟨Tryz.f228.name,by decide,Tryz.func228.trans (congrArg some (by kernel_rfl))⟩
  f14:=⟨Tryz.f251.name,by decide,Tryz.func251.trans (congrArg some (by kernel_rfl))⟩
  f15:=Tryz.func104.trans (congrArg some (by kernel_rfl))
  f20:=⟨Tryz.f256.name,by decide,Tryz.func256.trans (congrArg some (by kernel_rfl))⟩
  f21:=⟨Tryz.f257.name,by decide,Tryz.func257.trans (congrArg some (by kernel_rfl))⟩
  f22:=⟨Tryz.f258.name,by decide,Tryz.func258.trans (congrArg some (by kernel_rfl))⟩
  f23:=⟨Tryz.f259.name,by decide,Tryz.func259.trans (congrArg some (by kernel_rfl))⟩
  f24:=⟨Tryz.f260.name,by decide,Tryz.func260.trans (congrArg some (by kernel_rfl))⟩
  f25:=⟨Tryz.f261.name,by decide,Tryz.func261.trans (congrArg some (by kernel_rfl))⟩
  f26:=⟨Tryz.f262.name,by decide,Tryz.func262.trans (congrArg some (by kernel_rfl))⟩
  f27:=⟨Tryz.f263.name,by decide,Tryz.func263.trans (congrArg some (by kernel_rfl))⟩
  f28:=Tryz.func162.trans (congrArg some (by kernel_rfl))
  f29:=Tryz.func163.trans (congrArg some (by kernel_rfl))
  f46:=⟨Tryz.f265.name,by decide,Tryz.func265.trans (congrArg some (by kernel_rfl))⟩
  f47:=Tryz.func208.trans (congrArg some (by kernel_rfl))
  f48:=Tryz.func209.trans (congrArg some (by kernel_rfl))
  f49:=⟨Tryz.f266.name,by decide,Tryz.func266.trans (congrArg some (by kernel_rfl))⟩
  f50:=⟨Tryz.f267.name,by decide,Tryz.func267.trans (congrArg some (by kernel_rfl))⟩
  f57:=⟨Tryz.f268.name,by decide,Tryz.func268.trans (congrArg some (by kernel_rfl))⟩
  t0:=Tryz.underlying0
  a0:=Tryz.isAgg0
  z0:=Tryz.sizeOf0
  v0:=Tryz.zeroValue0
  t3:=Tryz.underlying3
  a3:=Tryz.isAgg3
  z3:=Tryz.sizeOf3
  v3:=Tryz.zeroValue3
  t4:=Tryz.underlying4
  a4:=Tryz.isAgg4
  z4:=Tryz.sizeOf4
  v4:=Tryz.zeroValue4
  t5:=Tryz.underlying5
  a5:=Tryz.isAgg5
  z5:=Tryz.sizeOf5
  v5:=Tryz.zeroValue5
  t9:=Tryz.underlying9
  a9:=Tryz.isAgg9
  z9:=Tryz.sizeOf9
  v9:=Tryz.zeroValue9
  t22:=Tryz.underlying52
  a22:=Tryz.isAgg52
  z22:=Tryz.sizeOf52
  v22:=Tryz.zeroValue52
  t25:=Tryz.underlying288
  a25:=Tryz.isAgg288
  z25:=Tryz.sizeOf288
  v25:=Tryz.zeroValue288
  t39:=Tryz.underlying180
  a39:=Tryz.isAgg180
  z39:=Tryz.sizeOf180
  v39:=Tryz.zeroValue180
  t45:=Tryz.underlying225
  a45:=Tryz.isAgg225
  z45:=Tryz.sizeOf225
  v45:=Tryz.zeroValue225
  t46:=Tryz.underlying226
  a46:=Tryz.isAgg226
  z46:=Tryz.sizeOf226
  v46:=Tryz.zeroValue226
  t50:=Tryz.underlying148
  a50:=Tryz.isAgg148
  z50:=Tryz.sizeOf148
  v50:=Tryz.zeroValue148
  t53:=Tryz.underlying232
  a53:=Tryz.isAgg232
  z53:=Tryz.sizeOf232
  v53:=Tryz.zeroValue232
  t55:=Tryz.underlying234
  a55:=Tryz.isAgg234
  z55:=Tryz.sizeOf234
  v55:=Tryz.zeroValue234
  t66:=Tryz.underlying265
  a66:=Tryz.isAgg265
  z66:=Tryz.sizeOf265
  v66:=Tryz.zeroValue265
  t70:=Tryz.underlying269
  a70:=Tryz.isAgg269
  z70:=Tryz.sizeOf269
  v70:=Tryz.zeroValue269
  t76:=Tryz.underlying292
  a76:=Tryz.isAgg292
  z76:=Tryz.sizeOf292
  v76:=Tryz.zeroValue292
  t77:=Tryz.underlying293
  a77:=Tryz.isAgg293
  z77:=Tryz.sizeOf293
  v77:=Tryz.zeroValue293 }
def Tryz.laysSD_ren : Go.Shelf.Ren:=⟨fun|6=>83|15=>104|14=>135|28=>162|29=>163|20=>187|21=>188|22=>189|23=>190|24=>191|25=>192|26=>193|27=>194|46=>223|47=>208|48=>209|49=>224|50=>225|57=>249|n=>n,fun|22=>22|24=>48|25=>157|3=>3|39=>180|0=>0|53=>232|55=>234|4=>4|46=>226|45=>225|50=>148|5=>5|9=>9|66=>265|70=>269|76=>292|77=>293|n=>n,fun|n=>n⟩
theorem Tryz.laysSD : Go.Proofs.SlLaysF0.n6 Tryz.prog Tryz.laysSD_ren:={
  mixed:=by kernel_rfl
  f6:=⟨Tryz.f83.name,by decide,Tryz.func83.trans (congrArg some (by kernel_rfl))⟩
  f14:=⟨Tryz.f135.name,by decide,Tryz.func135.trans (congrArg some (by kernel_rfl))⟩
  f15:=Tryz.func104.trans (congrArg some (by kernel_rfl))
  f20:=⟨Tryz.f187.name,by decide,Tryz.func187.trans (congrArg some (by kernel_rfl))⟩
  f21:=⟨Tryz.f188.name,by decide,Tryz.func188.trans (congrArg some (by kernel_rfl))⟩
  f22:=⟨Tryz.f189.name,by decide,Tryz.func189.trans (congrArg some (by kernel_rfl))⟩
  f23:=⟨Tryz.f190.name,by decide,Tryz.func190.trans (congrArg some (by kernel_rfl))⟩
  f24:=⟨Tryz.f191.name,by decide,Tryz.func191.trans (congrArg some (by kernel_rfl))⟩
  f25:=⟨Tryz.f192.name,by decide,Tryz.func192.trans (congrArg some (by kernel_rfl))⟩
  f26:=⟨Tryz.f193.name,by decide,Tryz.func193.trans (congrArg some (by kernel_rfl))⟩
  f27:=⟨Tryz.f194.name,by decide,Tryz.func194.trans (congrArg some (by kernel_rfl))⟩
  f28:=Tryz.func162.trans (congrArg some (by kernel_rfl))
  f29:=Tryz.func163.trans (congrArg some (by kernel_rfl))
  f46:=⟨Tryz.f223.name,by decide,Tryz.func223.trans (congrArg some (by kernel_rfl))⟩
  f47:=Tryz.func208.trans (congrArg some (by kernel_rfl))
  f48:=Tryz.func209.trans (congrArg some (by kernel_rfl))
  f49:=⟨Tryz.f224.name,by decide,Tryz.func224.trans (congrArg some (by kernel_rfl))⟩
  f50:=⟨Tryz.f225.name,by decide,Tryz.func225.trans (congrArg some (by kernel_rfl))⟩
  f57:=⟨Tryz.f249.name,by decide,Tryz.func249.trans (congrArg some (by kernel_rfl))⟩
  t0:=Tryz.underlying0
  a0:=Tryz.isAgg0
  z0:=Tryz.sizeOf0
  v0:=Tryz.zeroValue0
  t3:=Tryz.underlying3
  a3:=Tryz.isAgg3
  z3:=Tryz.sizeOf3
  v3:=Tryz.zeroValue3
  t4:=Tryz.underlying4
  a4:=Tryz.isAgg4
  z4:=Tryz.sizeOf4
  v4:=Tryz.zeroValue4
  t5:=Tryz.underlying5
  a5:=Tryz.isAgg5
  z5:=Tryz.sizeOf5
  v5:=Tryz.zeroValue5
  t9:=Tryz.underlying9
  a9:=Tryz.isAgg9
  z9:=Tryz.sizeOf9
  v9:=Tryz.zeroValue9
  t22:=Tryz.underlying22
  a22:=Tryz.isAgg22
  z22:=Tryz.sizeOf22
  v22:=Tryz.zeroValue22
  t25:=Tryz.underlying157
  a25:=Tryz.isAgg157
  z25:=Tryz.sizeOf157
  v25:=Tryz.zeroValue157
  t39:=Tryz.underlying180
  a39:=Tryz.isAgg180
  z39:=Tryz.sizeOf180
  v39:=Tryz.zeroValue180
  t45:=Tryz.underlying225
  a45:=Tryz.isAgg225
  z45:=Tryz.sizeOf225
  v45:=Tryz.zeroValue225
  t46:=Tryz.underlying226
  a46:=Tryz.isAgg226
  z46:=Tryz.sizeOf226
  v46:=Tryz.zeroValue226
  t50:=Tryz.underlying148
  a50:=Tryz.isAgg148
  z50:=Tryz.sizeOf148
  v50:=Tryz.zeroValue148
  t53:=Tryz.underlying232
  a53:=Tryz.isAgg232
  z53:=Tryz.sizeOf232
  v53:=Tryz.zeroValue232
  t55:=Tryz.underlying234
  a55:=Tryz.isAgg234
  z55:=Tryz.sizeOf234
  v55:=Tryz.zeroValue234
  t66:=Tryz.underlying265
  a66:=Tryz.isAgg265
  z66:=Tryz.sizeOf265
  v66:=Tryz.zeroValue265
  t70:=Tryz.underlying269
  a70:=Tryz.isAgg269
  z70:=Tryz.sizeOf269
  v70:=Tryz.zeroValue269
  t76:=Tryz.underlying292
  a76:=Tryz.isAgg292
  z76:=Tryz.sizeOf292
  v76:=Tryz.zeroValue292
  t77:=Tryz.underlying293
  a77:=Tryz.isAgg293
  z77:=Tryz.sizeOf293
  v77:=Tryz.zeroValue293 }
def Tryz.laysSV_ren : Go.Shelf.Ren:=⟨fun|6=>171|15=>104|14=>217|28=>162|29=>163|20=>238|21=>239|22=>240|23=>241|24=>242|25=>243|26=>244|27=>245|46=>253|47=>208|48=>209|49=>254|50=>255|57=>264|n=>n,fun|22=>138|24=>46|25=>186|3=>3|39=>180|0=>0|53=>232|55=>234|4=>4|46=>226|45=>225|50=>148|5=>5|9=>9|66=>265|70=>269|76=>292|77=>293|n=>n,fun|n=>n⟩
theorem Tryz.laysSV : Go.Proofs.SlLaysF0.n6 Tryz.prog Tryz.laysSV_ren:={
  mixed:=by kernel_rfl
  f6:=⟨Tryz.f171.name,by decide,Tryz.func171.trans (congrArg some (by kernel_rfl))⟩
  f14:=⟨Tryz.f217.name,by decide,Tryz.func217.trans (congrArg some (by kernel_rfl))⟩
  f15:=Tryz.func104.trans (congrArg some (by kernel_rfl))
  f20:=⟨Tryz.f238.name,by decide,Tryz.func238.trans (congrArg some (by kernel_rfl))⟩
  f21:=⟨Tryz.f239.name,by decide,Tryz.func239.trans (congrArg some (by kernel_rfl))⟩
  f22:=⟨Tryz.f240.name,by decide,Tryz.func240.trans (congrArg some (by kernel_rfl))⟩
  f23:=⟨Tryz.f241.name,by decide,Tryz.func241.trans (congrArg some (by kernel_rfl))⟩
  f24:=⟨Tryz.f242.name,by decide,Tryz.func242.trans (congrArg some (by kernel_rfl))⟩
  f25:=⟨Tryz.f243.name,by decide,Tryz.func243.trans (congrArg some (by kernel_rfl))⟩
  f26:=⟨Tryz.f244.name,by decide,Tryz.func244.trans (congrArg some (by kernel_rfl))⟩
  f27:=⟨Tryz.f245.name,by decide,Tryz.func245.trans (congrArg some (by kernel_rfl))⟩
  f28:=Tryz.func162.trans (congrArg some (by kernel_rfl))
  f29:=Tryz.func163.trans (congrArg some (by kernel_rfl))
  f46:=⟨Tryz.f253.name,by decide,Tryz.func253.trans (congrArg some (by kernel_rfl))⟩
  f47:=Tryz.func208.trans (congrArg some (by kernel_rfl))
  f48:=Tryz.func209.trans (congrArg some (by kernel_rfl))
  f49:=⟨Tryz.f254.name,by decide,Tryz.func254.trans (congrArg some (by kernel_rfl))⟩
  f50:=⟨Tryz.f255.name,by decide,Tryz.func255.trans (congrArg some (by kernel_rfl))⟩
  f57:=⟨Tryz.f264.name,by decide,Tryz.func264.trans (congrArg some (by kernel_rfl))⟩
  t0:=Tryz.underlying0
  a0:=Tryz.isAgg0
  z0:=Tryz.sizeOf0
  v0:=Tryz.zeroValue0
  t3:=Tryz.underlying3
  a3:=Tryz.isAgg3
  z3:=Tryz.sizeOf3
  v3:=Tryz.zeroValue3
  t4:=Tryz.underlying4
  a4:=Tryz.isAgg4
  z4:=Tryz.sizeOf4
  v4:=Tryz.zeroValue4
  t5:=Tryz.underlying5
  a5:=Tryz.isAgg5
  z5:=Tryz.sizeOf5
  v5:=Tryz.zeroValue5
  t9:=Tryz.underlying9
  a9:=Tryz.isAgg9
  z9:=Tryz.sizeOf9
  v9:=Tryz.zeroValue9
  t22:=Tryz.underlying138
  a22:=Tryz.isAgg138
  z22:=Tryz.sizeOf138
  v22:=Tryz.zeroValue138
  t25:=Tryz.underlying186
  a25:=Tryz.isAgg186
  z25:=Tryz.sizeOf186
  v25:=Tryz.zeroValue186
  t39:=Tryz.underlying180
  a39:=Tryz.isAgg180
  z39:=Tryz.sizeOf180
  v39:=Tryz.zeroValue180
  t45:=Tryz.underlying225
  a45:=Tryz.isAgg225
  z45:=Tryz.sizeOf225
  v45:=Tryz.zeroValue225
  t46:=Tryz.underlying226
  a46:=Tryz.isAgg226
  z46:=Tryz.sizeOf226
  v46:=Tryz.zeroValue226
  t50:=Tryz.underlying148
  a50:=Tryz.isAgg148
  z50:=Tryz.sizeOf148
  v50:=Tryz.zeroValue148
  t53:=Tryz.underlying232
  a53:=Tryz.isAgg232
  z53:=Tryz.sizeOf232
  v53:=Tryz.zeroValue232
  t55:=Tryz.underlying234
  a55:=Tryz.isAgg234
  z55:=Tryz.sizeOf234
  v55:=Tryz.zeroValue234
  t66:=Tryz.underlying265
  a66:=Tryz.isAgg265
  z66:=Tryz.sizeOf265
  v66:=Tryz.zeroValue265
  t70:=Tryz.underlying269
  a70:=Tryz.isAgg269
  z70:=Tryz.sizeOf269
  v70:=Tryz.zeroValue269
  t76:=Tryz.underlying292
  a76:=Tryz.isAgg292
  z76:=Tryz.sizeOf292
  v76:=Tryz.zeroValue292
  t77:=Tryz.underlying293
  a77:=Tryz.isAgg293
  z77:=Tryz.sizeOf293
  v77:=Tryz.zeroValue293 }
def Tryz.laysSP_ren : Go.Shelf.Ren:=⟨fun|6=>68|15=>104|14=>124|28=>162|29=>163|20=>175|21=>176|22=>177|23=>178|24=>179|25=>180|26=>181|27=>182|46=>219|47=>208|48=>209|49=>220|50=>221|57=>248|n=>n,fun|22=>74|24=>80|25=>143|3=>3|39=>180|0=>0|53=>232|55=>234|4=>4|46=>226|45=>225|50=>148|5=>5|9=>9|66=>265|70=>269|76=>292|77=>293|n=>n,fun|n=>n⟩
theorem Tryz.laysSP : Go.Proofs.SlLaysF0.n6 Tryz.prog Tryz.laysSP_ren:={
  mixed:=by kernel_rfl
  f6:=⟨Tryz.f68.name,by decide,Tryz.func68.trans (congrArg some (by kernel_rfl))⟩
  f14:=⟨Tryz.f124.name,by decide,Tryz.func124.trans (congrArg some (by kernel_rfl))⟩
  f15:=Tryz.func104.trans (congrArg some (by kernel_rfl))
  f20:=⟨Tryz.f175.name,by decide,Tryz.func175.trans (congrArg some (by kernel_rfl))⟩
  f21:=⟨Tryz.f176.name,by decide,Tryz.func176.trans (congrArg some (by kernel_rfl))⟩
  f22:=⟨Tryz.f177.name,by decide,Tryz.func177.trans (congrArg some (by kernel_rfl))⟩
  f23:=⟨Tryz.f178.name,by decide,Tryz.func178.trans (congrArg some (by kernel_rfl))⟩
  f24:=⟨Tryz.f179.name,by decide,Tryz.func179.trans (congrArg some (by kernel_rfl))⟩
  f25:=⟨Tryz.f180.name,by decide,Tryz.func180.trans (congrArg some (by kernel_rfl))⟩
  f26:=⟨Tryz.f181.name,by decide,Tryz.func181.trans (congrArg some (by kernel_rfl))⟩
  f27:=⟨Tryz.f182.name,by decide,Tryz.func182.trans (congrArg some (by kernel_rfl))⟩
  f28:=Tryz.func162.trans (congrArg some (by kernel_rfl))
  f29:=Tryz.func163.trans (congrArg some (by kernel_rfl))
  f46:=⟨Tryz.f219.name,by decide,Tryz.func219.trans (congrArg some (by kernel_rfl))⟩
  f47:=Tryz.func208.trans (congrArg some (by kernel_rfl))
  f48:=Tryz.func209.trans (congrArg some (by kernel_rfl))
  f49:=⟨Tryz.f220.name,by decide,Tryz.func220.trans (congrArg some (by kernel_rfl))⟩
  f50:=⟨Tryz.f221.name,by decide,Tryz.func221.trans (congrArg some (by kernel_rfl))⟩
  f57:=⟨Tryz.f248.name,by decide,Tryz.func248.trans (congrArg some (by kernel_rfl))⟩
  t0:=Tryz.underlying0
  a0:=Tryz.isAgg0
  z0:=Tryz.sizeOf0
  v0:=Tryz.zeroValue0
  t3:=Tryz.underlying3
  a3:=Tryz.isAgg3
  z3:=Tryz.sizeOf3
  v3:=Tryz.zeroValue3
  t4:=Tryz.underlying4
  a4:=Tryz.isAgg4
  z4:=Tryz.sizeOf4
  v4:=Tryz.zeroValue4
  t5:=Tryz.underlying5
  a5:=Tryz.isAgg5
  z5:=Tryz.sizeOf5
  v5:=Tryz.zeroValue5
  t9:=Tryz.underlying9
  a9:=Tryz.isAgg9
  z9:=Tryz.sizeOf9
  v9:=Tryz.zeroValue9
  t22:=Tryz.underlying74
  a22:=Tryz.isAgg74
  z22:=Tryz.sizeOf74
  v22:=Tryz.zeroValue74
  t25:=Tryz.underlying143
  a25:=Tryz.isAgg143
  z25:=Tryz.sizeOf143
  v25:=Tryz.zeroValue143
  t39:=Tryz.underlying180
  a39:=Tryz.isAgg180
  z39:=Tryz.sizeOf180
  v39:=Tryz.zeroValue180
  t45:=Tryz.underlying225
  a45:=Tryz.isAgg225
  z45:=Tryz.sizeOf225
  v45:=Tryz.zeroValue225
  t46:=Tryz.underlying226
  a46:=Tryz.isAgg226
  z46:=Tryz.sizeOf226
  v46:=Tryz.zeroValue226
  t50:=Tryz.underlying148
  a50:=Tryz.isAgg148
  z50:=Tryz.sizeOf148
  v50:=Tryz.zeroValue148
  t53:=Tryz.underlying232
  a53:=Tryz.isAgg232
  z53:=Tryz.sizeOf232
  v53:=Tryz.zeroValue232
  t55:=Tryz.underlying234
  a55:=Tryz.isAgg234
  z55:=Tryz.sizeOf234
  v55:=Tryz.zeroValue234
  t66:=Tryz.underlying265
  a66:=Tryz.isAgg265
  z66:=Tryz.sizeOf265
  v66:=Tryz.zeroValue265
  t70:=Tryz.underlying269
  a70:=Tryz.isAgg269
  z70:=Tryz.sizeOf269
  v70:=Tryz.zeroValue269
  t76:=Tryz.underlying292
  a76:=Tryz.isAgg292
  z76:=Tryz.sizeOf292
  v76:=Tryz.zeroValue292
  t77:=Tryz.underlying293
  a77:=Tryz.isAgg293
  z77:=Tryz.sizeOf293
  v77:=Tryz.zeroValue293 }
def Tryz.laysGS_ren : Go.Shelf.Ren:=⟨fun|4=>230|n=>n,fun|22=>52|25=>62|3=>3|4=>4|9=>9|20=>20|0=>0|2=>2|n=>n,fun|n=>n⟩
theorem Tryz.laysGS : Go.Proofs.Lays8.n4 Tryz.prog Tryz.laysGS_ren:={
  mixed:=by kernel_rfl
  f4:=⟨Tryz.f230.name,by decide,Tryz.func230.trans (congrArg some (by kernel_rfl))⟩
  t0:=Tryz.underlying0
  a0:=Tryz.isAgg0
  z0:=Tryz.sizeOf0
  v0:=Tryz.zeroValue0
  t3:=Tryz.underlying3
  a3:=Tryz.isAgg3
  z3:=Tryz.sizeOf3
  v3:=Tryz.zeroValue3
  t4:=Tryz.underlying4
  a4:=Tryz.isAgg4
  z4:=Tryz.sizeOf4
  v4:=Tryz.zeroValue4
  t9:=Tryz.underlying9
  a9:=Tryz.isAgg9
  z9:=Tryz.sizeOf9
  v9:=Tryz.zeroValue9
  t20:=Tryz.underlying20
  a20:=Tryz.isAgg20
  z20:=Tryz.sizeOf20
  v20:=Tryz.zeroValue20
  t22:=Tryz.underlying52
  a22:=Tryz.isAgg52
  z22:=Tryz.sizeOf52
  v22:=Tryz.zeroValue52 }
end Go.Proofs
