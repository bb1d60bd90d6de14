/- Contracts: the curve, the document's: numbers, how many hold at an instant, the curve. -/
import Derived.Test.YtjojdiefnhbglaaED3
import Derived.Test.YtjojdiefnhbglaaOps22
import Derived.Test.YtjojdiefnhbglaaEInst
import Derived.Test.YtjojdiefnhbglaaOps21
import Derived.MapKept
set_option linter.all false
namespace Go.Proofs
open Go.AL Go.Sort
attribute [local irreducible] Go.AL.W Go.AL.WL Go.AL.WD Go.AL.POp Go.AL.PPOp Go.AL.POpS Go.AL.PC Go.AL.AC Go.AL.YW Go.AL.Ret Go.AL.Le Go.AL.thn Go.AL.inBlk Go.AL.scp
abbrev slI (l : List Int) : AV:=.sl none 1 (l.map iC)
theorem wcI : WC cmpI:=⟨fun x y=>by unfold cmpI;constructor <;> intro h <;> (repeat' split at h) <;> (repeat' split) <;> omega,fun x y z=>by unfold cmpI;intro h1 h2;(repeat' split at h1) <;> (repeat' split at h2) <;> (repeat' split) <;> omega⟩
theorem zzI (x y : Int) (h : cmpI x y = 0) : x = y:=by unfold cmpI at h;(repeat' split at h) <;> omega
theorem ltI {x y : Int} : cmpI x y < 0 ↔ x < y:=by unfold cmpI;constructor <;> intro h <;> (repeat' split at h) <;> (repeat' split) <;> omega
theorem insI_rise : ∀ (l : List Int),(insL cmpI l).Pairwise (fun a b=>a < b):=fun l=>by
  unfold insL
  rw [fold_sortC wcI zzI]
  exact (sortC_rise wcI zzI l).imp fun h=>ltI.1 h
theorem insI_mem (l : List Int) (x : Int) : x ∈ insL cmpI l ↔ x ∈ l:=by
  unfold insL
  rw [fold_sortC wcI zzI,sortC_mem]
set_option maxHeartbeats 16000000 in
theorem rnumbers_pc [GlobF Try.prog] (l : List Int) (hl : l.length < 8796093022208) : PC Try.prog 48 [slI l] (slI (insL cmpI l)):=by
  refine PC.of_body Try.func48 Try.ntmps48 rfl rfl rfl ?_
  repeat' first
 | (apply p1 (hd:=rfl);case hop=>first|(apply D_assign;rfl))
 | refine W_seq ?_
 | refine W_region ?_
 | refine WL_nil ?_
 | refine tn ?_
 | (refine W_block ?_)
  refine W_adopt 3 1 2 rfl ?_
  refine W_ren (rg':=[(0,slI l),(3,.sl none 1 (([] : List Int).map iC)),(4,.sc (.int .i64 0))]) (h':=[]) [] ⟨by decide,fun r hr=>absurd hr (Nat.not_lt_zero r),fun r hr=>(by cases hr),⟨⟨_,rfl,.pur⟩,⟨_,rfl,.slN⟩,⟨_,rfl,.pur⟩,trivial⟩,trivial⟩ ?_
  refine W_loopR (X:=Nat) (fun i=>[(0,slI l),(3,slI (insL cmpI (l.take i))),(4,.sc (.int .i64 (i : Int)))]) (fun _=>[])
    (fun i=>i ≤ l.length) (fun i=>l.length - i) 0 (Nat.zero_le _) ⟨rfl,rfl,rfl,trivial⟩ rfl ?_
  intro i hi
  have hlen:=insL_len cmpI l i hi
  have hr:=insI_rise (l.take i)
  by_cases hil : i < l.length
  rotate_left 1
  · have e : i = l.length:=by omega
    subst e
    rw [List.take_length]
    generalize insL cmpI l = O at *
    repeat' first
 | (apply p1 (hd:=rfl);case hop=>first|(apply D_move;rfl)|(apply D_assign;rfl)|(apply D_int;rfl;rfl;rfl)|(apply D_lenM;rfl))
 | refine W_seq ?_
 | refine W_region ?_
 | (refine idC ?_;refine cs rfl (fun _=>?_) (fun _=>?_))
 | refine WL_nil ?_
 | refine tn ?_
 | refine te ?_
 | (refine idB ?_;refine bh rfl ?_)
 | refine W_skip ?_
 | refine W_block ?_
 | refine W_exit ?_
 | refine W_ret ?_
 | (refine idR ?_;refine ret1 rfl rfl rfl ?_)
    all_goals first
      | (exfalso;omega)
      | exact Le.of_eq rfl
      | rfl
      | skip
  have hsn:=insL_snoc cmpI l i hil
  generalize insL cmpI (l.take i) = O at *
  generalize hx : l[i]'hil = x at *
  have hmono:=List.pairwise_iff_getElem.1 hr
  repeat' first
 | (apply p1 (hd:=rfl);case hop=>first|(apply D_move;rfl)|(apply D_assign;rfl)|(apply D_int;rfl;rfl;rfl)|(apply D_lenM;rfl))
 | refine W_seq ?_
 | refine W_region ?_
 | (refine idC ?_;refine cs rfl (fun _=>?_) (fun _=>?_))
 | refine WL_nil ?_
 | refine tn ?_
 | refine te ?_
 | (refine idB ?_;refine bh rfl ?_)
 | refine W_skip ?_
 | refine W_block ?_
 | refine W_exit ?_
 | refine W_ret ?_
 | (refine idR ?_;refine ret1 rfl rfl rfl ?_)
  all_goals first
    | (exfalso;omega)
    | skip
  refine W_loopL (X:=Nat × Nat × Bool) (fun c=>[(0,slI l),(3,slI O),(4,.sc (.int .i64 (i : Int))),(5,.sc (.int .i64 (c.2.1 : Int))),(6,.sc (.bool c.2.2)),(7,.sc (.int .i64 (c.1 : Int)))]) (fun _=>[])
    (fun c=>c.1 ≤ O.length ∧ c.2.1 ≤ c.1 ∧ (∀ (j : Nat) (h : j < O.length),j < c.2.1 → O[j] < x) ∧ (∀ (j : Nat) (h : j < O.length),c.2.1 ≤ j → j < c.1 → x ≤ O[j]) ∧ (c.2.2 = true ↔ ∃ (j : Nat) (h : j < O.length),j < c.1 ∧ O[j] = x)) (fun c=>O.length - c.1) (0,0,false)
    ⟨Nat.zero_le _,Nat.le_refl _,fun j h hj=>absurd hj (Nat.not_lt_zero j),fun j h h1 hj=>absurd hj (Nat.not_lt_zero j),⟨fun h=>absurd h (by decide),fun ⟨j,h,hj,_⟩=>absurd hj (Nat.not_lt_zero j)⟩⟩ ⟨rfl,rfl,rfl,rfl,rfl,rfl,trivial⟩ rfl ?_
  rintro ⟨k,n,met⟩ ⟨hk,hn,hz1,hz2,hm⟩
  dsimp only at hk hn hz1 hz2 hm
  dsimp only
  by_cases hkl : k < O.length
  · have hmet : (if met = true then true else iEq (O[k]'hkl) (l[i]'hil)) = true ↔ ∃ (j : Nat) (h : j < O.length),j < k + 1 ∧ O[j] = x:=by
      constructor
      · intro h
        by_cases c : met = true
        · obtain ⟨j,h1,h2,h3⟩:=hm.1 c
          exact ⟨j,h1,by omega,h3⟩
        · rw [if_neg c] at h
          exact ⟨k,hkl,by omega,(iEq_t _ _).mp h |>.trans hx⟩
      · rintro ⟨j,h1,h2,h3⟩
        by_cases c : met = true
        · rw [if_pos c]
        · rw [if_neg c]
          by_cases e : j = k
          · subst e;exact (iEq_t _ _).mpr (h3.trans hx.symm)
          · exact absurd (hm.2 ⟨j,h1,by omega,h3⟩) c
    have hlt : O[k]'hkl < l[i]'hil → (∀ (j : Nat) (h : j < O.length),j < k + 1 → O[j] < x) ∧ ∀ (j : Nat) (h : j < O.length),k + 1 ≤ j → j < k + 1 → x ≤ O[j]:=fun h=>⟨fun j h1 h2=>by
      by_cases e : j = k
      · subst e;omega
      · have:=hmono j k h1 hkl (by omega);omega,fun j h1 h2 h3=>by omega⟩
    have hge : l[i]'hil ≤ O[k]'hkl → ∀ (j : Nat) (h : j < O.length),n ≤ j → j < k + 1 → x ≤ O[j]:=fun h j h1 h2 h3=>by
      by_cases e : j = k
      · subst e;omega
      · exact hz2 j h1 h2 (by omega)
    cases met
    all_goals
      repeat' first
 | (apply p1 (hd:=rfl);case hop=>first|(apply D_move;rfl)|(apply D_assign;rfl)|(apply D_int;rfl;rfl;rfl)|(apply D_lenM;rfl)|(apply D_slVhM;rfl;rfl;all_goals first|omega|((repeat rw [w64 _ (by omega) (by omega)]);omega)|decide))
 | refine W_seq ?_
 | refine W_region ?_
 | (refine idC ?_;first|refine c1 rfl ?_|refine c0 rfl ?_|refine cs rfl (fun _=>?_) (fun _=>?_))
 | refine WL_nil ?_
 | refine tn ?_
 | refine bn ?_
 | refine te ?_
 | (refine idB ?_;refine bh rfl ?_)
 | refine W_skip ?_
 | refine W_block ?_
 | refine W_exit ?_
 | (refine idW ?_;refine W_draw0 rfl ?_)
 | (apply d1 (hd:=rfl);case hop=>first|(apply D_move;rfl)|(apply D_assign;rfl)|(apply D_load1;rfl)|(apply D_pickT;rfl;rfl)|(apply D_pickF;rfl;rfl)|(apply D_int;rfl;rfl;rfl)|(apply D_idxAn;rfl;rfl;(first|omega|(simp;done))))
 | (refine idDg ?_;first|refine dg0f rfl rfl rfl ?_|refine dgr rfl rfl ?_)
 | (refine WD_nil (by first|decide +kernel|kernel_rfl|rfl) ?_)
    all_goals first
      | (exfalso;omega)
      | contradiction
      | exact ⟨rfl,(k + 1,k + 1,iEq (O[k]'hkl) (l[i]'hil)),⟨by show k + 1 ≤ _;omega,Nat.le_refl _,(hlt (by assumption)).1,(hlt (by assumption)).2,hmet⟩,by show O.length - (k + 1) < O.length - k;omega,⟨rfl,rfl,rfl,ieq (wsucc k (by omega)),rfl,ieq (wsucc k (by omega)),trivial⟩,rfl⟩
      | exact ⟨rfl,(k + 1,k + 1,true),⟨by show k + 1 ≤ _;omega,Nat.le_refl _,(hlt (by assumption)).1,(hlt (by assumption)).2,hmet⟩,by show O.length - (k + 1) < O.length - k;omega,⟨rfl,rfl,rfl,ieq (wsucc k (by omega)),rfl,ieq (wsucc k (by omega)),trivial⟩,rfl⟩
      | exact ⟨rfl,(k + 1,n,iEq (O[k]'hkl) (l[i]'hil)),⟨by show k + 1 ≤ _;omega,by show n ≤ k + 1;omega,hz1,hge (by assumption),hmet⟩,by show O.length - (k + 1) < O.length - k;omega,⟨rfl,rfl,rfl,rfl,rfl,ieq (wsucc k (by omega)),trivial⟩,rfl⟩
      | exact ⟨rfl,(k + 1,n,true),⟨by show k + 1 ≤ _;omega,by show n ≤ k + 1;omega,hz1,hge (by assumption),hmet⟩,by show O.length - (k + 1) < O.length - k;omega,⟨rfl,rfl,rfl,rfl,rfl,ieq (wsucc k (by omega)),trivial⟩,rfl⟩
      | skip
  · have ek : k = O.length:=by omega
    subst ek
    have hat:=insC_at (c:=cmpI) x n O hn (fun j h hj=>ltI.2 (hz1 j h hj))
    cases met
    · have hnot : ∀ (j : Nat) (h : j < O.length),O[j] ≠ x:=fun j h e=>by have:=hm.2 ⟨j,h,h,e⟩;cases this
      have e2 : (insC cmpI x O).map iC = [] ++ (O.take (n : Int).toNat).map iC ++ [iC (l[i]'hil)] ++ (O.drop (n : Int).toNat).map iC:=by
        rw [hx]
        by_cases hnl : n < O.length
        · have h1:=hz2 n hnl (Nat.le_refl _) hnl
          have h2:=hnot n hnl
          rw [(hat.1 hnl (fun h=>by have:=ltI.1 h;omega)).2 (fun h=>h2 (zzI _ _ h))];simp
        · rw [hat.2 (by omega)]
          have e : n = O.length:=by omega
          rw [e];simp
      repeat' first
 | (refine W_adopt 8 1 2 rfl ?_)
 | (apply p1 (hd:=rfl);case hop=>first|(apply D_move;rfl)|(apply D_assign;rfl)|(apply D_load1;rfl)|(apply D_int;rfl;rfl;rfl)|(apply D_lenM;rfl)|(apply D_idxAn;rfl;rfl;(first|omega|(simp;done)))|(apply D_lit;rfl;rfl;rfl;rfl)|(apply D_slVhM;rfl;rfl;all_goals first|omega|((repeat rw [w64 _ (by omega) (by omega)]);omega)|decide)|(apply D_slVlM;rfl;rfl;all_goals first|omega|((repeat rw [w64 _ (by omega) (by omega)]);omega)|decide))
 | refine W_seq ?_
 | refine W_region ?_
 | (refine idC ?_;first|refine c0 rfl ?_|refine cs rfl (fun _=>?_) (fun _=>?_))
 | refine WL_nil ?_
 | refine tn ?_
 | refine bn ?_
 | refine te ?_
 | (refine idB ?_;refine bh rfl ?_)
 | refine W_skip ?_
 | refine W_block ?_
 | refine W_exit ?_
 | (refine idAp ?_;refine m_app rfl rfl (by first|rfl|assumption|exact get_set (by assumption)|exact get_set (get_set (by assumption))|exact get_set (get_set (get_set (by assumption)))|((repeat first|assumption|exact get_last|(refine get_last2 ?_;focus (simp;done))|apply get_set|apply get_app|(apply get_ne;focus omega));done)) ?_ rfl rfl ?_ ?_ rfl ?_;(first|rfl|focus (simp only [List.length_map,List.length_append,List.length_cons,List.length_nil,List.length_take,List.length_drop];omega)|focus (simp;done)|focus (simp;omega));(first|focus (simp only [List.length_map,List.length_append,List.length_cons,List.length_nil,List.length_take,List.length_drop];omega)|focus (simp;done)|focus (simp;omega));(first|focus (simp only [List.length_map,List.length_append,List.length_cons,List.length_nil,List.length_take,List.length_drop];omega)|focus (simp;done)|focus (simp;omega)))
 | (refine idW ?_;refine W_draw0 rfl ?_)
 | (apply d1 (hd:=rfl);case hop=>first|(apply D_move;rfl)|(apply D_assign;rfl)|(apply D_load1;rfl)|(apply D_pickF;rfl;rfl)|(apply D_int;rfl;rfl;rfl)|(apply D_idxAn;rfl;rfl;(first|omega|(simp;done))))
 | (refine idDg ?_;refine dgr rfl rfl ?_)
 | (refine WD_nil (by first|decide +kernel|kernel_rfl|rfl) ?_)
      all_goals first
        | (exfalso;omega)
        | contradiction
        | (refine ⟨rfl,i + 1,by omega,by omega,[],?_⟩
           refine ⟨by decide,fun r hr=>absurd hr (Nat.not_lt_zero r),fun r hr=>(by cases hr),⟨⟨_,rfl,.pur⟩,⟨_,rfl,?_⟩,⟨_,rfl,?_⟩,trivial⟩,trivial⟩
           · rw [hsn];show Mv _ _ (.sl none 1 ((insC cmpI x O).map iC));rw [e2];exact .slN
           · rw [wsucc i (by omega)];exact .pur)
        | skip
    · have hyes : insC cmpI x O = O:=by
        obtain ⟨j,h,_,e⟩:=hm.1 rfl
        have hnj : ¬ j < n:=fun hh=>by have:=hz1 j h hh;omega
        have hnl : n < O.length:=by omega
        have h1:=hz2 n hnl (Nat.le_refl _) hnl
        have h2 : O[n] = x:=by
          rcases Nat.lt_or_eq_of_le (show n ≤ j by omega) with q|q
          · have:=hmono n j hnl h q;omega
          · subst q;exact e
        exact (hat.1 hnl (fun h=>by have:=ltI.1 h;omega)).1 (by rw [h2];exact wcI.refl x)
      rw [hyes] at hsn
      repeat' first
 | (apply p1 (hd:=rfl);case hop=>first|(apply D_move;rfl)|(apply D_assign;rfl)|(apply D_int;rfl;rfl;rfl)|(apply D_lenM;rfl))
 | refine W_seq ?_
 | refine W_region ?_
 | (refine idC ?_;first|refine c1 rfl ?_|refine cs rfl (fun _=>?_) (fun _=>?_))
 | refine WL_nil ?_
 | refine tn ?_
 | refine bn ?_
 | refine te ?_
 | (refine idB ?_;refine bh rfl ?_)
 | refine W_skip ?_
 | refine W_block ?_
 | refine W_exit ?_
 | (refine idW ?_;refine W_draw0 rfl ?_)
 | (apply d1 (hd:=rfl);case hop=>first|(apply D_move;rfl)|(apply D_assign;rfl)|(apply D_load1;rfl)|(apply D_pickT;rfl;rfl)|(apply D_int;rfl;rfl;rfl)|(apply D_idxAn;rfl;rfl;(first|omega|(simp;done))))
 | (refine idDg ?_;refine dg0f rfl rfl rfl ?_)
 | (refine WD_nil (by first|decide +kernel|kernel_rfl|rfl) ?_)
      all_goals first
        | (exfalso;omega)
        | contradiction
        | exact ⟨rfl,i + 1,by omega,by omega,[],renN ⟨⟨_,rfl,.pur⟩,⟨_,rfl,by rw [hsn];exact .pur⟩,⟨_,rfl,by rw [wsucc i (by omega)];exact .pur⟩,trivial⟩⟩
        | skip
end Go.Proofs

namespace Go.Proofs
open Go.Shelf
def Try.laysSD_ren : Go.Shelf.Ren:=⟨fun|6=>125|15=>83|14=>150|28=>119|29=>120|20=>160|21=>161|22=>162|23=>163|24=>164|25=>165|26=>166|27=>167|46=>170|47=>146|48=>147|49=>171|50=>172|57=>174|n=>n,fun|22=>22|24=>36|25=>206|3=>3|39=>161|0=>0|53=>199|55=>201|4=>4|46=>193|45=>192|50=>123|5=>5|9=>9|66=>218|70=>222|76=>232|77=>70|n=>n,fun|n=>n⟩
theorem Try.laysSD : Go.Proofs.SlLaysF0.n6 Try.prog Try.laysSD_ren:={
  mixed:=by kernel_rfl
  f6:=⟨Try.f125.name,by decide,Try.func125.trans (congrArg some (by kernel_rfl))⟩
  f14:=⟨Try.f150.name,by decide,Try.func150.trans (congrArg some (by kernel_rfl))⟩
  f15:=Try.func83.trans (congrArg some (by kernel_rfl))
  f20:=⟨Try.f160.name,by decide,Try.func160.trans (congrArg some (by kernel_rfl))⟩
  f21:=⟨Try.f161.name,by decide,Try.func161.trans (congrArg some (by kernel_rfl))⟩
  f22:=⟨Try.f162.name,by decide,Try.func162.trans (congrArg some (by kernel_rfl))⟩
  f23:=⟨Try.f163.name,by decide,Try.func163.trans (congrArg some (by kernel_rfl))⟩
  f24:=⟨Try.f164.name,by decide,Try.func164.trans (congrArg some (by kernel_rfl))⟩
  f25:=⟨Try.f165.name,by decide,Try.func165.trans (congrArg some (by kernel_rfl))⟩
  f26:=⟨Try.f166.name,by decide,Try.func166.trans (congrArg some (by kernel_rfl))⟩
  f27:=⟨Try.f167.name,by decide,Try.func167.trans (congrArg some (by kernel_rfl))⟩
  f28:=Try.func119.trans (congrArg some (by kernel_rfl))
  f29:=Try.func120.trans (congrArg some (by kernel_rfl))
  f46:=⟨Try.f170.name,by decide,Try.func170.trans (congrArg some (by kernel_rfl))⟩
  f47:=Try.func146.trans (congrArg some (by kernel_rfl))
  f48:=Try.func147.trans (congrArg some (by kernel_rfl))
  f49:=⟨Try.f171.name,by decide,Try.func171.trans (congrArg some (by kernel_rfl))⟩
  f50:=⟨Try.f172.name,by decide,Try.func172.trans (congrArg some (by kernel_rfl))⟩
  f57:=⟨Try.f174.name,by decide,Try.func174.trans (congrArg some (by kernel_rfl))⟩
  t0:=Try.underlying0
  a0:=Try.isAgg0
  z0:=Try.sizeOf0
  v0:=Try.zeroValue0
  t3:=Try.underlying3
  a3:=Try.isAgg3
  z3:=Try.sizeOf3
  v3:=Try.zeroValue3
  t4:=Try.underlying4
  a4:=Try.isAgg4
  z4:=Try.sizeOf4
  v4:=Try.zeroValue4
  t5:=Try.underlying5
  a5:=Try.isAgg5
  z5:=Try.sizeOf5
  v5:=Try.zeroValue5
  t9:=Try.underlying9
  a9:=Try.isAgg9
  z9:=Try.sizeOf9
  v9:=Try.zeroValue9
  t22:=Try.underlying22
  a22:=Try.isAgg22
  z22:=Try.sizeOf22
  v22:=Try.zeroValue22
  t25:=Try.underlying206
  a25:=Try.isAgg206
  z25:=Try.sizeOf206
  v25:=Try.zeroValue206
  t39:=Try.underlying161
  a39:=Try.isAgg161
  z39:=Try.sizeOf161
  v39:=Try.zeroValue161
  t45:=Try.underlying192
  a45:=Try.isAgg192
  z45:=Try.sizeOf192
  v45:=Try.zeroValue192
  t46:=Try.underlying193
  a46:=Try.isAgg193
  z46:=Try.sizeOf193
  v46:=Try.zeroValue193
  t50:=Try.underlying123
  a50:=Try.isAgg123
  z50:=Try.sizeOf123
  v50:=Try.zeroValue123
  t53:=Try.underlying199
  a53:=Try.isAgg199
  z53:=Try.sizeOf199
  v53:=Try.zeroValue199
  t55:=Try.underlying201
  a55:=Try.isAgg201
  z55:=Try.sizeOf201
  v55:=Try.zeroValue201
  t66:=Try.underlying218
  a66:=Try.isAgg218
  z66:=Try.sizeOf218
  v66:=Try.zeroValue218
  t70:=Try.underlying222
  a70:=Try.isAgg222
  z70:=Try.sizeOf222
  v70:=Try.zeroValue222
  t76:=Try.underlying232
  a76:=Try.isAgg232
  z76:=Try.sizeOf232
  v76:=Try.zeroValue232
  t77:=Try.underlying70
  a77:=Try.isAgg70
  z77:=Try.sizeOf70
  v77:=Try.zeroValue70 }
end Go.Proofs

namespace Go.AL
class KeyT (P : Program) (t : TypeId) (κ : outParam Type) (kv : outParam (κ → Value)) : Prop where
  und : ∃ d,P.underlying t = some d ∧ (∀ a b,a = b → Instr.sameNow d (kv a) (kv b) = some true) ∧ (∀ a b,a ≠ b → Instr.sameNow d (kv a) (kv b) = some false)
  chk : ∀ (w : World) (e : Bool) (a : κ),(Instr.checkKey e 10000 t (kv a)).run P w = .ok () w
  bits : ∀ a,Instr.sameBits 10000 (kv a) (kv a) = true
abbrev kvI (a : Int) : Value:=.int .i64 a
abbrev kvS (a : List UInt8) : Value:=.string ⟨a.toArray⟩
theorem chk_step {P : Program} {t : TypeId} {d : TypeDesc} (hu : P.underlying t = some d) (w : World) (e : Bool) (n : Nat) (v : Value) (hd : (∀ a b,d ≠ .array a b) ∧ (∀ f,d ≠ .struct f) ∧ ∀ m,d ≠ .interface m) : (Instr.checkKey e (n + 1) t v).run P w = .ok () w:=by
  unfold Instr.checkKey
  simp only [Sem.run_bind,run_underlying hu,Result.andThen_ok]
  cases d <;> simp_all
instance {P : Program} {t : TypeId} [hu : Und P t (.int .i64)] : KeyT P t Int kvI where
  und:=⟨_,hu.h,fun a b e=>by simp [Instr.sameNow,e],fun a b e=>by simp [Instr.sameNow,e]⟩
  chk w e a:=chk_step hu.h w e 9999 _ ⟨by simp,by simp,by simp⟩
  bits a:=by simp [Instr.sameBits]
theorem bytes_beq (a b : List UInt8) : ((⟨a.toArray⟩ : ByteArray) == ⟨b.toArray⟩) = (a == b):=by
  show (a.toArray == b.toArray) = _
  simp
instance {P : Program} {t : TypeId} [hu : Und P t .string] : KeyT P t (List UInt8) kvS where
  und:=⟨_,hu.h,fun a b e=>by simp [Instr.sameNow,bytes_beq,e],fun a b e=>by simp [Instr.sameNow,bytes_beq,e]⟩
  chk w e a:=chk_step hu.h w e 9999 _ ⟨by simp,by simp,by simp⟩
  bits a:=by simp [Instr.sameBits,bytes_beq]
section
variable {κ : Type} [DecidableEq κ]
end
section
variable {P : Program} {t : TypeId} {κ : Type} [DecidableEq κ] {kv : κ → Value}
end
section
variable {P : Program} [GlobF P] {fr : Option Nat} {N : Nat} {Q : Exit → AS → Prop} {ops : Array Oper} {rest : List Oper} {rg : List (Nat × AV)} {h : List AObj} {mk : Mk} {ty : TypeId} {pos : String} {af : Array Edge} {d : Nat}
section
variable {κ : Type} [DecidableEq κ] {kv : κ → Value} {gd : Option (Nat × Bool)} {dst : Option Nat} {ρ : Operand → Option AV} {t kt et : TypeId} {m k x : Operand} {a : κ} {v : Int} {b r : Nat} {es : List (κ × Int)}
end
end
end Go.AL
