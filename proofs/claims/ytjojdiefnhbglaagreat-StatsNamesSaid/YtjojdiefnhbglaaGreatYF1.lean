/- Contracts of spans' functions, for facts; how datoms are sorted. -/
import Derived.Test.YtjojdiefnhbglaaGreatYD3
import Derived.Test.YtjojdiefnhbglaaGreatOps7
import Derived.Test.YtjojdiefnhbglaaGreatOps11
import Derived.Test.YtjojdiefnhbglaaGreatYT1
import Derived.Test.YtjojdiefnhbglaaGreatOps25
import Derived.Test.YtjojdiefnhbglaaGreatOps26
set_option linter.all false
namespace Go.Proofs
open Go.AL Go.Sort
attribute [local irreducible] Go.AL.W Go.AL.WL Go.AL.WD Go.AL.POp Go.AL.PPOp Go.AL.POpS Go.AL.PC Go.AL.AC Go.AL.YW Go.AL.Ret Go.AL.Le Go.AL.thn Go.AL.inBlk Go.AL.scp
instance (p : Prop) : BP (dP p) p (¬ p):=⟨fun h=>by rwa [dP_t] at h,fun h=>by rwa [dP_f] at h⟩
instance (s : List UInt8) : BP (wordB s) (WordP s) (¬ WordP s):=⟨fun h=>by unfold wordB at h;simpa using h,fun h=>by unfold wordB at h;simpa using h⟩
instance (v : Val) : BP (mayB v) (MayP v) (¬ MayP v):=⟨fun h=>by unfold mayB at h;rwa [dP_t] at h,fun h=>by unfold mayB at h;rwa [dP_f] at h⟩
instance : Xt Tryz.prog 252 Extern.BytealgCompare.compare:=⟨run_callFunc_extern Tryz.func252 (by kernel_rfl) (by kernel_rfl) (by kernel_rfl) (by kernel_rfl)⟩
abbrev eS (s : Sp) : AV:=.ag (sC s)
theorem sC_row {l : List Sp} : ∀ e,e ∈ l.map sC → e.length = 2:=fun e he=>by obtain ⟨a,_,rfl⟩:=List.mem_map.1 he;rfl
set_option maxHeartbeats 4000000 in
theorem make1_pc [GlobF Tryz.prog] (s : Sp) : PC Tryz.prog 226 [eS s] (.sc (.bool (dP (s.t ≤ s.f)))):=by
  refine PC.of_body Tryz.func226 Tryz.ntmps226 rfl rfl rfl ?_
  repeat' first
 | (apply p1 (hd:=rfl);case hop=>first|(apply D_assign;rfl)|(apply D_load1;rfl)|(apply D_fld;rfl)|(apply D_int;rfl;rfl;rfl)|(apply D_box;rfl;rfl))
 | refine W_seq ?_
 | refine W_region ?_
 | refine WL_nil ?_
 | refine tn ?_
 | refine W_ret ?_
 | (refine idR ?_;refine ret1 rfl rfl rfl ?_)
 | (refine Le.bool ?_)
  all_goals first
    | (refine dP_eq ?_;simp [iLe_t,iLt_t, *];done)
    | skip
set_option maxHeartbeats 4000000 in
theorem joined1_pc [GlobF Tryz.prog] (a b : Sp) : PC Tryz.prog 229 [eS a,eS b] (.sc (.int .i64 (cmpI a.f b.f))):=by
  refine PC.of_body Tryz.func229 Tryz.ntmps229 rfl rfl rfl ?_
  repeat' first
 | (apply p1 (hd:=rfl);case hop=>first|(apply D_assign;rfl)|(apply D_pc (cmpInt64_pc _ _);rfl;exact .same rfl (.same rfl .nil))|(apply D_load1;rfl)|(apply D_fld;rfl)|(apply D_box;rfl;rfl))
 | refine W_seq ?_
 | refine W_region ?_
 | refine WL_nil ?_
 | refine tn ?_
 | refine W_ret ?_
 | (refine idR ?_;refine ret1 rfl rfl rfl ?_)
 | (refine Le.int ?_)
  all_goals rfl
open Classical in
noncomputable def idxS (p : Sp → Prop) : List Sp → Int
  | []=>-1
  | s :: l=>if p s then 0 else if idxS p l = -1 then -1 else idxS p l + 1
theorem idxS_lo (p : Sp → Prop) : ∀ l,-1 ≤ idxS p l
  | []=>Int.le_refl _
  | s :: l=>by
    have:=idxS_lo p l
    unfold idxS;split
    · omega
    · split <;> omega
theorem idxS_at (p : Sp → Prop) : ∀ (l : List Sp) (n : Nat) (hn : n < l.length),(∀ (j : Nat) (h : j < l.length),j < n → ¬ p l[j]) → p l[n] → idxS p l = n
  | [],n,hn,_,_=>by simp at hn
  | s :: l,0,hn,_,h=>by unfold idxS;rw [if_pos (by simpa using h)];rfl
  | s :: l,n + 1,hn,h0,h=>by
    have:=idxS_at p l n (by simpa using hn) (fun j hj hjn=>by have:=h0 (j + 1) (by simpa using hj) (by omega);simpa using this) (by simpa using h)
    unfold idxS;rw [if_neg (by have:=h0 0 (by simp) (by omega);simpa using this),this,if_neg (by omega)];omega
theorem idxS_no (p : Sp → Prop) : ∀ (l : List Sp),(∀ (j : Nat) (h : j < l.length),¬ p l[j]) → idxS p l = -1
  | [],_=>rfl
  | s :: l,h=>by
    have:=idxS_no p l (fun j hj=>by have:=h (j + 1) (by simpa using hj);simpa using this)
    unfold idxS;rw [if_neg (by have:=h 0 (by simp);simpa using this),if_pos this]
theorem idxS_ge {p : Sp → Prop} {l : List Sp} : 0 ≤ idxS p l ↔ ∃ s,s ∈ l ∧ p s:=by
  induction l with
  | nil=>simp [idxS]
  | cons s l ih =>
    have lo:=idxS_lo p l
    unfold idxS
    by_cases h : p s
    · rw [if_pos h];exact ⟨fun _=>⟨s,List.mem_cons_self,h⟩,fun _=>Int.le_refl _⟩
    · rw [if_neg h]
      constructor
      · intro e
        split at e
        · omega
        · obtain ⟨r,hr,h⟩:=ih.1 (by omega);exact ⟨r,List.mem_cons_of_mem _ hr,h⟩
      · rintro ⟨r,hr,h2⟩
        rcases List.mem_cons.1 hr with rfl|hr
        · exact absurd h2 h
        · have:=ih.2 ⟨r,hr,h2⟩
          rw [if_neg (by omega)];omega
set_option maxHeartbeats 4000000 in
theorem idxM_pc [GlobF Tryz.prog] (l : List Sp) (hl : l.length < 4611686018427387904) : PC Tryz.prog 185 [sl2 l,.sc (.func (.func 226) #[] #[])] (.sc (.int .i64 (idxS (fun s=>s.t ≤ s.f) l))):=by
  refine PC.of_body Tryz.func185 Tryz.ntmps185 rfl rfl rfl ?_
  repeat' first
 | (apply p1 (hd:=rfl);case hop=>first|(apply D_move;rfl)|(apply D_assign;rfl)|(apply D_lenM;rfl))
 | refine W_seq ?_
 | refine W_region ?_
 | refine WL_nil ?_
 | refine tn ?_
 | (refine W_block ?_)
  refine W_loopL (X:=Nat) (fun i=>[(0,sl2 l),(1,.sc (.func (.func 226) #[] #[])),(7,.sc (.int .i64 l.length)),(8,.sc (.int .i64 (i : Int)))]) (fun _=>[])
    (fun i=>i ≤ l.length ∧ ∀ (j : Nat) (h : j < l.length),j < i → ¬ (l[j].t ≤ l[j].f)) (fun i=>l.length - i) 0 ⟨by omega,fun j h h'=>by omega⟩ ⟨rfl,rfl,rfl,rfl,trivial⟩ rfl ?_
  rintro i ⟨hi,hz⟩
  repeat' first
 | (apply p1 (hd:=rfl);case hop=>first|(apply D_move;rfl)|(apply D_assign;rfl)|(apply D_pc (make1_pc (l[i]'(by omega)));rfl;exact .same rfl .nil)|(apply D_int;rfl;rfl;rfl)|(apply D_loadW;rfl;rfl)|(apply D_idxAn;rfl;rfl;(first|omega|(simp;done))))
 | refine W_seq ?_
 | refine W_region ?_
 | (refine idC ?_;refine cs rfl (fun _=>?_) (fun _=>?_))
 | refine WL_nil ?_
 | refine tn ?_
 | refine tr ?_
 | refine br ?_
 | refine bn ?_
 | refine te ?_
 | (refine idB ?_;refine bh rfl ?_)
 | refine W_skip ?_
 | refine W_block ?_
 | refine W_exit ?_
 | refine W_ret ?_
 | (refine idR ?_;refine ret1 rfl rfl rfl ?_)
 | (refine Le.int ?_)
  · rename_i k1 k2
    exact (idxS_at (fun s=>s.t ≤ s.f) l i (by omega) hz k2).symm
  · rename_i k1 k2
    refine ⟨rfl,i + 1,⟨by omega,fun j h hj=>?_⟩,by omega,⟨rfl,rfl,rfl,ieq (wsucc i (by omega)),trivial⟩,rfl⟩
    by_cases e : j = i
    · subst e;exact k2
    · exact hz j h (by omega)
  · exact (idxS_no (fun s=>s.t ≤ s.f) l fun j h=>hz j h (by omega)).symm
set_option maxHeartbeats 4000000 in
theorem conM_pc [GlobF Tryz.prog] (l : List Sp) (hl : l.length < 4611686018427387904) : PC Tryz.prog 129 [sl2 l,.sc (.func (.func 226) #[] #[])] (.sc (.bool (dP (¬ neS l)))):=by
  refine PC.of_body Tryz.func129 Tryz.ntmps129 rfl rfl rfl ?_
  repeat' first
 | (apply p1 (hd:=rfl);case hop=>first|(apply D_move;rfl)|(apply D_assign;rfl)|(apply D_pc (idxM_pc l hl);rfl;exact .same rfl (.same rfl .nil))|(apply D_int;rfl;rfl;rfl))
 | refine W_seq ?_
 | refine W_region ?_
 | refine WL_nil ?_
 | refine tn ?_
 | refine W_ret ?_
 | (refine idR ?_;refine ret1 rfl rfl rfl ?_)
 | (refine Le.bool ?_)
  refine dP_eq ?_
  rw [iLe_t]
  refine idxS_ge.trans ⟨fun ⟨s,hs,h⟩ e=>by have:=e s hs;omega,fun h=>?_⟩
  refine Classical.byContradiction fun h2=>h fun s hs=>?_
  rcases Int.lt_or_le s.f s.t with h3|h3
  · exact h3
  · exact absurd ⟨s,hs,h3⟩ h2
def encS (s : Sp) : List Value:=[.int .i64 s.f,.int .i64 s.t]
instance : Inhabited Sp:=⟨⟨0,0⟩⟩
theorem sC_enc (s : Sp) : sC s = (encS s).map .sc:=rfl
abbrev cmpS (a b : Sp) : Int:=cmpI a.f b.f
theorem ltS (a b : Sp) : ltOf cmpS a b = decide (a.f < b.f):=by
  unfold ltOf;show decide (cmpI a.f b.f < 0) = _;unfold cmpI
  by_cases h : a.f < b.f
  · simp [h]
  · by_cases h2 : b.f < a.f <;> simp [h,h2]
theorem swoS : SWO (ltOf cmpS):=⟨fun x=>by rw [ltS];simp,fun x y z h1 h2=>by rw [ltS] at *;simp at *;omega,fun x y z h1 h2=>by rw [ltS] at *;simp at *;omega⟩
theorem sortS_ac [GlobF Tryz.prog] {h : List AObj} {r : Nat} {l : List Sp} {sp : List AV} (hr : h[r]? = some (.cells ((l.map sC).flatten ++ sp))) (hne : 0 < l.length) (hl : l.length < 4611686018427387904) :
    AC Tryz.prog 228 [.mr r 0 l.length,.sc (.func (.func 229) #[] #[])] h (fun v h'=>v = .tu [] ∧ ∃ ms : List Sp,ms.Perm l ∧ ms.Pairwise (fun x y=>ltOf cmpS y x = false) ∧ h' = h.set r (.cells ((ms.map sC).flatten ++ sp))) :=
  sortP_ac Tryz.laysSS Tryz.isAgg62 Tryz.sizeOf62 encS sC sC_enc (fun _=>rfl) (fun x v hv=>by simp [encS] at hv;rcases hv with rfl|rfl <;> rfl) cmpS swoS 229 [] _
    (fun G v hv=>⟨[],by rw [conc_sc hv],.nil _⟩) (fun x y=>joined1_pc x y) hr hne hl
set_option maxHeartbeats 4000000 in
theorem cloneS_ac [GlobF Tryz.prog] {h : List AObj} {tok : Option Nat} (l : List Sp) (hne : 0 < l.length) (hl : l.length < 8796093022208) :
    AC Tryz.prog 131 [.sl tok 2 (l.map sC)] h (fun v h'=>∃ sp,v = .mr (h.length + 1) 0 l.length ∧ h' = h ++ [.dead,.cells ((l.map sC).flatten ++ sp)]):=by
  have hnn : l.map sC ≠ []:=by cases l with|nil=>simp at hne|cons a l=>simp
  refine AC.of_body Tryz.func131 Tryz.ntmps131 rfl rfl rfl ?_
  repeat' first
 | (refine m_slnil rfl rfl ?_;rintro b hb)
 | refine m_lit (d:=5) rfl rfl rfl rfl rfl rfl ?_
 | (refine m_appR (d:=7) rfl rfl get_last hnn rfl (by rw [List.length_map];omega) (by rw [List.length_map];omega) rfl ?_;intro sp)
 | (apply p1 (hd:=rfl);case hop=>first|(apply D_move;rfl)|(apply D_assign;rfl))
 | refine W_seq ?_
 | refine W_region ?_
 | (refine idC ?_;refine cs rfl (fun _=>?_) (fun _=>?_))
 | refine WL_nil ?_
 | refine tn ?_
 | refine tr ?_
 | refine W_skip ?_
 | (refine W_ret ?_)
  · rename_i hb'
    first
      | exact absurd (hb hb') hnn
      | exact absurd (hb rfl) hnn
  · exact retK1 (.inl rfl) rfl rfl (ResO.tmp rfl) ⟨sp,by simp,by simp⟩
theorem sortS0_pc [GlobF Tryz.prog] : PC Tryz.prog 228 [.sl none 2 [],.sc (.func (.func 229) #[] #[])] (.tu []):=sort_none_pc Tryz.laysSS 2 _
set_option maxHeartbeats 4000000 in
theorem cloneS0_pc [GlobF Tryz.prog] : PC Tryz.prog 131 [.sl none 2 []] (.sl none 2 []):=by
  refine PC.of_body Tryz.func131 Tryz.ntmps131 rfl rfl rfl ?_
  repeat' first
 | (refine m_slnil rfl rfl ?_;rintro b hb)
 | refine m_lit (d:=5) rfl rfl rfl rfl rfl rfl ?_
 | (apply p1 (hd:=rfl);case hop=>first|(apply D_move;rfl)|(apply D_assign;rfl))
 | refine W_seq ?_
 | refine W_region ?_
 | (refine idC ?_;refine cs rfl (fun _=>?_) (fun _=>?_))
 | refine WL_nil ?_
 | refine tn ?_
 | refine tr ?_
 | refine W_skip ?_
 | refine W_ret ?_
 | (refine idR ?_;refine ret1 rfl rfl rfl ?_)
 | (refine idAp ?_;refine m_app rfl rfl (by first|rfl|assumption|exact get_set (by assumption)|exact get_set (get_set (by assumption))|exact get_set (get_set (get_set (by assumption)))|((repeat first|assumption|exact get_last|(refine get_last2 ?_;focus (simp;done))|apply get_set|apply get_app|(apply get_ne;focus omega));done)) ?_ rfl rfl ?_ ?_ rfl ?_;(first|rfl|focus (simp only [List.length_map,List.length_append,List.length_cons,List.length_nil];omega)|focus (simp;done)|focus (simp;omega));(first|focus (simp only [List.length_map,List.length_append,List.length_cons,List.length_nil];omega)|focus (simp;done)|focus (simp;omega));(first|focus (simp only [List.length_map,List.length_append,List.length_cons,List.length_nil];omega)|focus (simp;done)|focus (simp;omega)))
  all_goals first
    | exact Le.nil rfl
    | exact Le.tokq rfl
noncomputable def canS (l : List Sp) : List Sp:=J (l.mergeSort fun x y=>decide (x.f ≤ y.f))
theorem canS_ok {l : List Sp} (h : neS l) : SetP (canS l) ∧ ∀ x,inS (canS l) x ↔ inS l x:=by
  have hp:=List.mergeSort_perm l (fun x y=>decide (x.f ≤ y.f))
  have hs : (l.mergeSort fun x y=>decide (x.f ≤ y.f)).Pairwise (fun a b=>a.f ≤ b.f):=by
    have:=List.pairwise_mergeSort (le:=fun (x y : Sp)=>decide (x.f ≤ y.f)) (fun a b c h1 h2=>by simp at *;omega) (fun a b=>by simp;omega) l
    exact this.imp (fun h=>by simpa using h)
  obtain ⟨k1,k2,_⟩:=J_ok _ (fun s hs=>h s (hp.mem_iff.1 hs)) hs
  exact ⟨k1,fun x=>(k2 x).trans (inS_perm hp x)⟩
theorem J_can {l ms : List Sp} (h : neS l) (hp : ms.Perm l) (hs : ms.Pairwise (fun x y=>ltOf cmpS y x = false)) : J ms = canS l:=by
  obtain ⟨k1,k2,_⟩:=J_ok ms (fun s hs=>h s (hp.mem_iff.1 hs)) (hs.imp (fun {a b} h=>by rw [ltS] at h;simpa using h))
  obtain ⟨j1,j2⟩:=canS_ok h
  exact set_ext k1 j1 fun x=>by rw [k2,j2,inS_perm hp]
theorem jn_len (o : List Sp) (s : Sp) : (jn o s).length ≤ o.length + 1:=by
  rcases snoc_cases o with rfl | ⟨o,p,rfl⟩
  · simp [jn_nil]
  · rw [jn_snoc];split <;> simp
theorem J_len : ∀ m : List Sp,(J m).length ≤ m.length:=by
  refine snoc_ind (by simp [J]) fun m x ih=>?_
  rw [J_snoc,List.length_append]
  have:=jn_len (J m) x
  simp;omega
theorem J_take (ms : List Sp) (i : Nat) (h : i < ms.length) : J (ms.take (i + 1)) = jn (J (ms.take i)) ms[i]:=by
  rw [List.take_succ_eq_append_getElem h,J_snoc]
theorem flat2 {o : List Sp} {p : Sp} : ((o ++ [p]).map sC).flatten = (o.map sC).flatten ++ sC p:=by simp
theorem flat2_len (o : List Sp) : ((o.map sC).flatten).length = o.length * 2:=by
  rw [flat_len sC_row,List.length_map]
theorem flat_get {o : List Sp} {p : Sp} : (((o ++ [p]).map sC).flatten)[o.length * 2 + 1]? = some (.sc (.int .i64 p.t)):=by
  have:=flat2_len o
  rw [flat2,List.getElem?_append_right (by omega),this,show o.length * 2 + 1 - o.length * 2 = 1 by omega];rfl
theorem flat_st {o : List Sp} {p : Sp} {t : Int} : ((o ++ [(⟨p.f,t⟩ : Sp)]).map sC).flatten = (((o ++ [p]).map sC).flatten).take (o.length * 2 + 1) ++ [.sc (.int .i64 t)] ++ (((o ++ [p]).map sC).flatten).drop (o.length * 2 + 1 + 1):=by
  have:=flat2_len o
  rw [flat2,flat2,List.take_append,List.drop_append,this,show o.length * 2 + 1 - o.length * 2 = 1 by omega,show o.length * 2 + 1 + 1 - o.length * 2 = 2 by omega,List.take_of_length_le (by omega),List.drop_eq_nil_of_le (by omega)]
  simp
theorem ren3 {rg rg' : List (Nat × AV)} {h : List AObj} {q e : Nat} {els : List (List AV)} [PurLL els] (h0 : q ≠ 0) (h1 : q ≠ 1) (hq0 : h[0]?.isSome) (hq1 : h[1]?.isSome) (hq : h[q]? = some (.row 2 e els)) (hr : RenL [0,1,q] rg rg') : Ren ⟨[],0⟩ [0,1,q] rg h rg' [.dead,.dead,.row 2 e els]:=by
  obtain ⟨a,ha⟩:=Option.isSome_iff_exists.1 hq0
  obtain ⟨b,hb⟩:=Option.isSome_iff_exists.1 hq1
  exact ⟨by simp;omega,fun r hr=>absurd hr (Nat.not_lt_zero r),fun r hr=>(by cases hr),hr,⟨⟨_,ha,.dead _⟩,⟨_,hb,.dead _⟩,⟨_,hq,.row _ _ _⟩,trivial⟩⟩
set_option maxHeartbeats 16000000 in
theorem joined0_pc [GlobF Tryz.prog] : PC Tryz.prog 197 [sl2 []] (sl2 []):=by
  refine PC.of_body Tryz.func197 Tryz.ntmps197 rfl rfl rfl ?_
  repeat' first
 | (refine W_rounds 1 ?_)
 | (refine cs rfl ?_ (fun _=>?_);focus (intro h;exfalso;revert h;decide))
 | (apply p1 (hd:=rfl);case hop=>first|(apply D_move;rfl)|(apply D_assign;rfl)|(apply D_pc cloneS0_pc;rfl;exact .same rfl .nil)|(apply D_pc sortS0_pc;rfl;exact .same rfl (.same rfl .nil))|(apply D_int;rfl;rfl;rfl)|(apply D_len_sl;rfl))
 | refine W_seq ?_
 | refine W_region ?_
 | refine WL_nil ?_
 | refine tn ?_
 | refine te ?_
 | (refine idB ?_;refine bh rfl ?_)
 | refine W_block ?_
 | refine W_exit ?_
 | refine W_ret ?_
 | (refine idR ?_;refine ret1 rfl rfl rfl ?_)
  all_goals exact Le.nil rfl
set_option maxHeartbeats 16000000 in
theorem joined_pc [GlobF Tryz.prog] (l : List Sp) (hn : neS l) (hl : l.length < 8796093022208) : PC Tryz.prog 197 [sl2 l] (sl2 (canS l)):=by
  rcases Nat.eq_zero_or_pos l.length with h0|h0
  · have e : l = []:=List.length_eq_zero_iff.1 h0
    subst e
    have e2 : canS [] = []:=set_empty (canS_ok hn).1 fun x h=>inS_nil x (((canS_ok hn).2 x).1 h)
    rw [e2];exact joined0_pc
  refine PC.of_body Tryz.func197 Tryz.ntmps197 rfl rfl rfl ?_
  repeat' first
 | (apply p1 (hd:=rfl);case hop=>first|(apply D_move;rfl)|(apply D_assign;rfl)|(apply D_lenM;rfl))
 | refine W_seq ?_
 | refine W_region ?_
 | refine WL_nil ?_
 | refine tn ?_
 | refine W_block ?_
 | (refine m_call (d:=8) (cloneS_ac l h0 (by omega)) rfl rfl rfl ?_;rintro _ _ ⟨sp,rfl,rfl⟩)
 | (refine m_call (d:=10) (sortS_ac (l:=l) rfl h0 (by omega)) rfl rfl rfl ?_;rintro _ _ ⟨rfl,ms,hpm,hpw,rfl⟩;refine WL_frz 0 1 2 (els:=ms.map sC) (sp:=sp) rfl rfl (by rw [List.length_map,hpm.length_eq];exact Nat.le_refl _) sC_row ?_;rw [List.take_of_length_le (by rw [List.length_map,hpm.length_eq];exact Nat.le_refl _)])
  refine W_adoptG 3 2 62 rfl ?_
  have hml : ms.length = l.length:=hpm.length_eq
  refine W_loopR (X:=Nat) (fun i=>[(3,rowA 2 (J (ms.take i)).length),(11,sl2 ms),(12,.sc (.int .i64 (ms.length : Int))),(13,.sc (.int .i64 (i : Int)))]) (fun i=>[.dead,.dead,.row 2 62 ((J (ms.take i)).map sC)])
    (fun i=>i ≤ ms.length) (fun i=>ms.length - i) 0 (Nat.zero_le _) ⟨rfl,rfl,rfl,rfl,trivial⟩ rfl ?_
  intro i hi
  have hJ:=J_take ms i
  have hlen : (J (ms.take i)).length ≤ i:=by have:=J_len (ms.take i);rw [List.length_take] at this;omega
  have hfin : ms.length ≤ i → J (ms.take i) = canS l:=fun h=>by rw [List.take_of_length_le h];exact J_can hn hpm hpw
  generalize J (ms.take i) = O at *
  rcases snoc_cases O with rfl | ⟨o,p,rfl⟩
  · repeat' first
 | (apply p1 (hd:=rfl);case hop=>first|(apply D_move;rfl)|(apply D_assign;rfl)|exact D_lenG rfl|(apply D_int;rfl;rfl;rfl)|(apply D_loadW;rfl;rfl)|(apply D_idxAn;rfl;rfl;(first|omega|(simp;done)))|(apply D_lit;rfl;rfl;rfl;rfl))
 | refine W_seq ?_
 | refine W_region ?_
 | (refine idC ?_;first|refine c0 rfl ?_|refine cs rfl (fun _=>?_) (fun _=>?_))
 | refine WL_nil ?_
 | refine tn ?_
 | refine bn ?_
 | refine te ?_
 | (refine idB ?_;refine bh rfl ?_)
 | refine W_skip ?_
 | refine W_block ?_
 | refine W_exit ?_
 | refine W_ret ?_
 | (refine idR ?_;refine ret1 rfl rfl rfl ?_)
 | (refine idA ?_;refine m_var rfl rfl rfl rfl rfl rfl rfl ?_)
 | (refine m_appG (d:=49) (els:=[]) rfl rfl rfl rfl (by simp) rfl (by simp) (by simp) rfl ?_)
 | (refine idW ?_;refine W_draw0 rfl ?_)
 | (apply d1 (hd:=rfl);case hop=>first|(apply D_move;rfl)|(apply D_load1;rfl)|(apply D_fld;rfl)|(apply D_pickF;rfl;rfl)|(apply D_int;rfl;rfl;rfl))
 | (refine idDg ?_;first|refine dg0t rfl rfl rfl ?_|refine dgr rfl rfl ?_|refine dgs rfl rfl (fun _=>?_) (fun _=>?_))
 | (refine WD_nil (by first|decide +kernel|kernel_rfl|rfl) ?_)
    · exfalso;rename_i k1;simp at k1
    · rename_i k1 k2
      refine ⟨rfl,i + 1,by omega,by omega,[0,1,3],ren3 (by decide) (by decide) rfl rfl ?_ ⟨⟨_,rfl,?_⟩,⟨_,rfl,.pur⟩,⟨_,rfl,.pur⟩,⟨_,rfl,by rw [wsucc i (by omega)];exact .pur⟩,trivial⟩⟩
      · rw [hJ (by omega),jn_nil];rfl
      · rw [hJ (by omega),jn_nil];exact mvRow rfl rfl
    · rename_i k1
      rw [← hfin (by omega)];exact Le.row0
  · have hlo : (o ++ [p]).length = o.length + 1:=by simp
    rw [hlo] at hlen ⊢
    repeat' first
 | (refine dL 2 (fun hp' hs=>D_ixRowN rfl (hs.trans rfl) (by simp) rfl (by omega)) rfl ?_)
 | (refine dL 2 (fun hp' hs=>D_loadG1 rfl (hs.trans rfl) flat_get) rfl ?_)
 | (refine dS (S_storeG (r:=2) ((o ++ [(⟨p.f,max p.t (ms[i]'(by omega)).t⟩ : Sp)]).map sC) rfl rfl rfl rfl rfl rfl (by rw [flat2_len];simp;omega) (by simp) sC_row flat_st (by simp)) rfl ?_)
 | (have hE : ms.length ≤ i:=(by omega);refine WL_rowM 3 2 rfl rfl (by simp) (by simp) ?_;intro sp2;refine WL_frz 3 2 2 (els:=(o ++ [p]).map sC) (sp:=sp2) rfl rfl (by simp) sC_row ?_)
 | (apply p1 (hd:=rfl);case hop=>first|(apply D_move;rfl)|(apply D_assign;rfl)|exact D_lenG rfl|(apply D_int;rfl;rfl;rfl)|(apply D_loadW;rfl;rfl)|(apply D_idxAn;rfl;rfl;(first|omega|(simp;done)))|(apply D_lit;rfl;rfl;rfl;rfl))
 | refine W_seq ?_
 | refine W_region ?_
 | (refine idC ?_;first|refine c0 rfl ?_|refine cs rfl (fun _=>?_) (fun _=>?_))
 | refine WL_nil ?_
 | refine tn ?_
 | refine bn ?_
 | refine te ?_
 | (refine idB ?_;refine bh rfl ?_)
 | refine W_skip ?_
 | refine W_block ?_
 | refine W_exit ?_
 | refine W_ret ?_
 | (refine idR ?_;refine ret1 rfl rfl rfl ?_)
 | (refine idA ?_;refine m_var rfl rfl rfl rfl rfl rfl rfl ?_)
 | (refine m_appG (d:=49) (els:=(o ++ [p]).map sC) rfl rfl rfl (by simp) (by simp) rfl (by simp;omega) (by simp;omega) rfl ?_)
 | (refine idW ?_;refine W_draw0 rfl ?_)
 | (apply d1 (hd:=rfl);case hop=>first|(apply D_move;rfl)|exact D_sub1 rfl rfl (by omega)|exact D_max rfl rfl|(apply D_load1;rfl)|(apply D_fld;rfl)|(apply D_pickT;rfl;rfl)|(apply D_pickF;rfl;rfl)|(apply D_int;rfl;rfl;rfl)|exact D_fldB rfl)
 | (refine idDg ?_;first|refine dg0t rfl rfl rfl ?_|refine dgr rfl rfl ?_|refine dgs rfl rfl (fun _=>?_) (fun _=>?_))
 | (refine WD_nil (by first|decide +kernel|kernel_rfl|rfl) ?_)
    · rename_i k1 k2 k3
      refine ⟨rfl,i + 1,by omega,by omega,[0,1,2],ren3 (by decide) (by decide) rfl rfl ?_ ⟨⟨_,rfl,?_⟩,⟨_,rfl,.pur⟩,⟨_,rfl,.pur⟩,⟨_,rfl,by rw [wsucc i (by omega)];exact .pur⟩,trivial⟩⟩
      · rw [hJ (by omega),jn_snoc,if_pos k3];rfl
      · rw [hJ (by omega),jn_snoc,if_pos k3];exact mvRow rfl (by simp)
    · rename_i k1 k2 k3
      refine ⟨rfl,i + 1,by omega,by omega,[0,1,3],ren3 (by decide) (by decide) rfl rfl ?_ ⟨⟨_,rfl,?_⟩,⟨_,rfl,.pur⟩,⟨_,rfl,.pur⟩,⟨_,rfl,by rw [wsucc i (by omega)];exact .pur⟩,trivial⟩⟩
      · rw [hJ (by omega),jn_snoc,if_neg (by omega),show ((o ++ [p]) ++ [ms[i]'(by omega)]).map sC = (o ++ [p]).map sC ++ [sC (ms[i]'(by omega))] by simp];rfl
      · rw [hJ (by omega),jn_snoc,if_neg (by omega)];exact mvRow rfl (by simp)
    · exfalso;rename_i k1 k2;omega
    · rename_i k1
      rw [← hfin (by omega),List.take_of_length_le (by simp)]
      exact Le.of_eq rfl
set_option maxHeartbeats 4000000 in
theorem make_pc [GlobF Tryz.prog] (l : List Sp) (hl : l.length < 8796093022208) : PC Tryz.prog 195 [sl2 l] (.tu [sl2 (if dP (neS l) then canS l else []),.sc (.int .i64 (if dP (neS l) then 0 else 30))]):=by
  by_cases h : neS l
  · have hc:=conM_pc l (by omega)
    rw [← dP_F (fun e=>e h)] at hc
    rw [← dP_T h]
    refine PC.of_body Tryz.func195 Tryz.ntmps195 rfl rfl rfl ?_
    repeat' first
 | (apply p1 (hd:=rfl);case hop=>first|(apply D_move;rfl)|(apply D_assign;rfl)|(apply D_pc hc;rfl;exact .same rfl (.same rfl .nil))|(apply D_pc (joined_pc l h hl);rfl;exact .same rfl .nil))
 | refine W_seq ?_
 | refine W_region ?_
 | (refine idC ?_;refine c0 rfl ?_)
 | refine WL_nil ?_
 | refine tn ?_
 | refine W_skip ?_
 | refine W_ret ?_
 | (refine idR ?_;refine ret2 rfl rfl rfl rfl ?_ ?_)
 | (refine Le.int ?_)
    all_goals first|rfl|contradiction|exact Le.of_eq rfl|skip
  · have hc:=conM_pc l (by omega)
    rw [← dP_T h] at hc
    rw [← dP_F h]
    refine PC.of_body Tryz.func195 Tryz.ntmps195 rfl rfl rfl ?_
    repeat' first
 | (apply p1 (hd:=rfl);case hop=>first|(apply D_move;rfl)|(apply D_assign;rfl)|(apply D_pc hc;rfl;exact .same rfl (.same rfl .nil)))
 | refine W_seq ?_
 | refine W_region ?_
 | (refine idC ?_;refine c1 rfl ?_)
 | refine WL_nil ?_
 | refine tn ?_
 | refine tr ?_
 | refine W_ret ?_
 | (refine idR ?_;refine ret2 rfl rfl rfl rfl ?_ ?_)
 | (refine Le.int ?_)
    all_goals first|rfl|contradiction|exact Le.nil rfl|skip
theorem growS_ac [GlobF Tryz.prog] (n : Nat) (hn : n < 8796093022208) (h : List AObj) : AC Tryz.prog 230 [.sc (.slice none 0 0),.sc (.int .i64 (n : Int))] h (fun v h'=>v = rowA h.length 0 ∧ h' = h ++ [.row 2 62 []]) :=
  grow_ac (k:=2) (by_:=16) (hi:=(inferInstance : Inf Tryz.prog 62 2 16 _)) Tryz.laysGS (by decide) rfl n (by omega) (by omega) h
set_option maxHeartbeats 16000000 in
theorem concat_pc [GlobF Tryz.prog] (a b : List Sp) (ha : a.length + b.length < 8796093022208) (hb : b.length < 8796093022208) : PC Tryz.prog 198 [.sl none 1 [[sl2 a],[sl2 b]]] (sl2 (a ++ b)):=by
  have e1 : IntKind.i64.wrap (0 + (a.length : Int)) = (a.length : Int):=by rw [w64 _ (by omega) (by omega)];omega
  have e2 : IntKind.i64.wrap ((a.length : Int) + (b.length : Int)) = ((a.length + b.length : Nat) : Int):=by rw [w64 _ (by omega) (by omega)];omega
  have hgr:=fun h=>growS_ac (a.length + b.length) (by omega) h
  have l1 : Value.bool (iLt (a.length : Int) 0) = .bool false:=by rw [(iLt_f _ _).mpr (by omega)]
  have l2 : Value.bool (iLt ((a.length + b.length : Nat) : Int) 0) = .bool false:=by rw [(iLt_f _ _).mpr (by omega)]
  by_cases ha0 : a = [] <;> by_cases hb0 : b = []
  · subst ha0;subst hb0
    refine PC.of_body Tryz.func198 Tryz.ntmps198 rfl rfl rfl ?_
    repeat' first
 | (refine W_rounds 3 ?_)
 | (refine cs rfl ?_ (fun _=>?_);focus (intro h;exfalso;revert h;decide))
 | (apply p1 (hd:=rfl);case hop=>first|(apply D_move;rfl)|(apply D_assign;rfl)|exact D_sc (D_int rfl rfl rfl) (congrArg _ e1)|exact D_sc (D_int rfl rfl rfl) l1|exact D_ltD rfl rfl|(apply D_idxA0;rfl;rfl;all_goals exact of_decide_eq_true rfl)|exact D_appG0 rfl rfl|(apply D_load1;rfl)|(apply D_int;rfl;rfl;rfl)|(apply D_lenM;rfl)|(apply D_len_sl;rfl))
 | refine W_seq ?_
 | refine W_region ?_
 | (refine idC ?_;refine c1 rfl ?_)
 | refine WL_nil ?_
 | refine tn ?_
 | refine bn ?_
 | refine te ?_
 | (refine idB ?_;refine bh rfl ?_)
 | refine W_skip ?_
 | refine W_block ?_
 | refine W_exit ?_
 | refine W_ret ?_
 | (refine idR ?_;refine ret1 rfl rfl rfl ?_)
 | (refine m_call (d:=24) (hgr _) rfl rfl rfl ?_;rintro _ _ ⟨rfl,rfl⟩)
    all_goals first|exact Le.row0|skip
  · subst ha0
    have hbn : b.map sC ≠ []:=fun e=>hb0 (List.map_eq_nil_iff.1 e)
    have hbl : 0 < b.length:=List.length_pos_iff.2 hb0
    refine PC.of_body Tryz.func198 Tryz.ntmps198 rfl rfl rfl ?_
    repeat' first
 | (refine W_rounds 3 ?_)
 | (refine cs rfl ?_ (fun _=>?_);focus (intro h;exfalso;revert h;decide))
 | (refine m_moveRow 35 (els:=([] ++ b.map sC)) rfl rfl (by simp) (by simp;omega) (by simp) ?_)
 | (apply p1 (hd:=rfl);case hop=>first|(apply D_move;rfl)|(apply D_assign;rfl)|exact D_sc (D_int rfl rfl rfl) (congrArg _ e1)|exact D_sc (D_int rfl rfl rfl) (congrArg _ e2)|exact D_sc (D_int rfl rfl rfl) l1|exact D_sc (D_int rfl rfl rfl) l2|exact D_ltD rfl rfl|(apply D_idxA0;rfl;rfl;all_goals exact of_decide_eq_true rfl)|exact D_appG0 rfl rfl|(apply D_load1;rfl)|(apply D_int;rfl;rfl;rfl)|(apply D_lenM;rfl)|(apply D_len_sl;rfl))
 | refine W_seq ?_
 | refine W_region ?_
 | (refine idC ?_;first|refine c1 rfl ?_|refine c0 rfl ?_)
 | refine WL_nil ?_
 | refine tn ?_
 | refine bn ?_
 | refine te ?_
 | (refine idB ?_;refine bh rfl ?_)
 | refine W_skip ?_
 | refine W_block ?_
 | refine W_exit ?_
 | refine W_ret ?_
 | (refine idR ?_;refine ret1 rfl rfl rfl ?_)
 | (refine m_call (d:=24) (hgr _) rfl rfl rfl ?_;rintro _ _ ⟨rfl,rfl⟩)
 | (refine m_appG (d:=33) (els:=[]) rfl rfl rfl rfl hbn rfl (by simp;omega) (by simp;omega) rfl ?_)
    all_goals first|exact Le.of_eq rfl|skip
  · subst hb0
    have han : a.map sC ≠ []:=fun e=>ha0 (List.map_eq_nil_iff.1 e)
    have hal : 0 < a.length:=List.length_pos_iff.2 ha0
    rw [List.append_nil]
    refine PC.of_body Tryz.func198 Tryz.ntmps198 rfl rfl rfl ?_
    repeat' first
 | (refine W_rounds 3 ?_)
 | (refine cs rfl ?_ (fun _=>?_);focus (intro h;exfalso;revert h;decide))
 | (refine m_moveRow 35 (els:=([] ++ a.map sC)) rfl rfl (by simp) (by simp;omega) (by simp) ?_)
 | (apply p1 (hd:=rfl);case hop=>first|(apply D_move;rfl)|(apply D_assign;rfl)|exact D_sc (D_int rfl rfl rfl) (congrArg _ e1)|exact D_sc (D_int rfl rfl rfl) (congrArg _ e2)|exact D_sc (D_int rfl rfl rfl) l1|exact D_ltD rfl rfl|(apply D_idxA0;rfl;rfl;all_goals exact of_decide_eq_true rfl)|exact D_appG0 rfl rfl|(apply D_load1;rfl)|(apply D_int;rfl;rfl;rfl)|(apply D_lenM;rfl)|(apply D_len_sl;rfl))
 | refine W_seq ?_
 | refine W_region ?_
 | (refine idC ?_;first|refine c1 rfl ?_|refine c0 rfl ?_)
 | refine WL_nil ?_
 | refine tn ?_
 | refine bn ?_
 | refine te ?_
 | (refine idB ?_;refine bh rfl ?_)
 | refine W_skip ?_
 | refine W_block ?_
 | refine W_exit ?_
 | refine W_ret ?_
 | (refine idR ?_;refine ret1 rfl rfl rfl ?_)
 | (refine m_call (d:=24) (hgr _) rfl rfl rfl ?_;rintro _ _ ⟨rfl,rfl⟩)
 | (refine m_appG (d:=33) (els:=[]) rfl rfl rfl rfl han rfl (by simp;omega) (by simp;omega) rfl ?_)
    all_goals first|exact Le.of_eq rfl|skip
  · have han : a.map sC ≠ []:=fun e=>ha0 (List.map_eq_nil_iff.1 e)
    have hal : 0 < a.length:=List.length_pos_iff.2 ha0
    have hbn : b.map sC ≠ []:=fun e=>hb0 (List.map_eq_nil_iff.1 e)
    have hbl : 0 < b.length:=List.length_pos_iff.2 hb0
    refine PC.of_body Tryz.func198 Tryz.ntmps198 rfl rfl rfl ?_
    repeat' first
 | (refine W_rounds 3 ?_)
 | (refine cs rfl ?_ (fun _=>?_);focus (intro h;exfalso;revert h;decide))
 | (refine m_moveRow 35 (els:=(([] ++ a.map sC) ++ b.map sC)) rfl rfl (by simp) (by simp;omega) (fun x hx=>sC_row (l:=a ++ b) x (by simpa using hx)) ?_)
 | (apply p1 (hd:=rfl);case hop=>first|(apply D_move;rfl)|(apply D_assign;rfl)|exact D_sc (D_int rfl rfl rfl) (congrArg _ e1)|exact D_sc (D_int rfl rfl rfl) (congrArg _ e2)|exact D_sc (D_int rfl rfl rfl) l1|exact D_sc (D_int rfl rfl rfl) l2|exact D_ltD rfl rfl|(apply D_idxA0;rfl;rfl;all_goals exact of_decide_eq_true rfl)|(apply D_load1;rfl)|(apply D_int;rfl;rfl;rfl)|(apply D_lenM;rfl)|(apply D_len_sl;rfl))
 | refine W_seq ?_
 | refine W_region ?_
 | (refine idC ?_;first|refine c1 rfl ?_|refine c0 rfl ?_)
 | refine WL_nil ?_
 | refine tn ?_
 | refine bn ?_
 | refine te ?_
 | (refine idB ?_;refine bh rfl ?_)
 | refine W_skip ?_
 | refine W_block ?_
 | refine W_exit ?_
 | refine W_ret ?_
 | (refine idR ?_;refine ret1 rfl rfl rfl ?_)
 | (refine m_call (d:=24) (hgr _) rfl rfl rfl ?_;rintro _ _ ⟨rfl,rfl⟩)
 | (refine m_appG (d:=33) (els:=[]) rfl rfl rfl rfl han rfl (by simp;omega) (by simp;omega) rfl ?_)
 | (refine m_appG (d:=33) (els:=([] ++ a.map sC)) rfl rfl rfl (by simp) hbn rfl (by simp;omega) (by simp;omega) rfl ?_)
    all_goals first|exact Le.of_eq rfl|exact Le.of_eq (congrArg (AV.sl none 2) (by simp))|skip
set_option maxHeartbeats 4000000 in
theorem sor_pc [GlobF Tryz.prog] (a b : List Sp) (ha : SetP a) (hb : SetP b) (hla : a.length + b.length < 8796093022208) (hlb : b.length < 8796093022208) : PC Tryz.prog 140 [sl2 a,sl2 b] (.tu [sl2 (canS (a ++ b)),.sc (.int .i64 0)]):=by
  have s1:=set_pc a (by omega)
  have s2:=set_pc b (by omega)
  rw [← dP_T ha] at s1
  rw [← dP_T hb] at s2
  have hn : neS (a ++ b):=fun s hs=>by
    rcases List.mem_append.1 hs with h|h
    · exact ha.1 s h
    · exact hb.1 s h
  refine PC.of_body Tryz.func140 Tryz.ntmps140 rfl rfl rfl ?_
  repeat' first
 | (apply p1 (hd:=rfl);case hop=>first|(apply D_move;rfl)|(apply D_assign;rfl)|(apply D_pc s1;rfl;exact .same rfl .nil)|(apply D_pc s2;rfl;exact .same rfl .nil)|(apply D_pc (concat_pc a b (by omega) (by omega));rfl;exact .same rfl .nil)|(apply D_pc (joined_pc (a ++ b) hn (by rw [List.length_append];omega));rfl;exact .same rfl .nil)|(apply D_pickT;rfl;rfl)|(apply D_pickF;rfl;rfl)|(apply D_not;rfl)|(apply D_lit;rfl;rfl;rfl;rfl))
 | refine W_seq ?_
 | refine W_region ?_
 | (refine idC ?_;first|refine c1 rfl ?_|refine cs rfl (fun _=>?_) (fun _=>?_))
 | refine WL_nil ?_
 | (refine idG ?_;first|refine g0f rfl rfl rfl ?_|refine gr rfl rfl ?_|refine gs rfl rfl (fun _=>?_) (fun _=>?_))
 | refine tn ?_
 | refine tr ?_
 | refine W_skip ?_
 | refine W_ret ?_
 | (refine idR ?_;refine ret2 rfl rfl rfl rfl ?_ ?_)
 | (refine Le.int ?_)
  all_goals first|rfl|contradiction|exact Le.of_eq rfl|skip
set_option maxHeartbeats 4000000 in
theorem meets_ac [GlobF Tryz.prog] (a b : List Sp) (h : List AObj) : AC Tryz.prog 227 [sl2 a,sl2 b] h (fun v h'=>v = .fn (.func 250) [] [.bp h.length 0,.bp (h ++ [AObj.cells [sl2 a]]).length 0] ∧ h' = h ++ [.cells [sl2 a]] ++ [.cells [sl2 b]]):=by
  refine AC.of_body Tryz.func227 Tryz.ntmps227 rfl rfl rfl ?_
  repeat' first
 | (refine m_box rfl rfl rfl ?_)
 | (apply p1 (hd:=rfl);case hop=>first|(apply D_assign;rfl)|exact D_mkfn rfl)
 | refine W_seq ?_
 | refine W_region ?_
 | refine WL_nil ?_
 | refine tn ?_
 | (refine W_ret ?_)
  exact retK1 (.inl rfl) rfl rfl (ResO.tmp rfl) ⟨rfl,rfl⟩
abbrev HM (X1 X2 : AObj) (o a b : List Sp) : List AObj:=[.cells [.sl (some 1) 2 (o.map sC)],.tail o.length 2 62,.cells [sl2 a],.cells [sl2 b],X1,X2]
theorem bdS {n : Nat} {tok : Option Nat} {k : Nat} {l : List Sp} (h : ∀ t,tok = some t → t < n) : BdA n (.sl tok k (l.map sC)):=.sl h fun e he x hx=>by
  obtain ⟨s,_,rfl⟩:=List.mem_map.1 he
  simp only [List.mem_cons,List.not_mem_nil,or_false] at hx
  rcases hx with rfl|rfl <;> exact .sc _
theorem HM_bd {X1 X2 : AObj} {a b : List Sp} (h : BdH (HM X1 X2 [] a b)) (o a' b' : List Sp) : BdH (HM X1 X2 o a' b'):=fun q hq=>by
  have h1 : BdO 6 X1:=h X1 (by simp)
  have h2 : BdO 6 X2:=h X2 (by simp)
  simp only [List.mem_cons,List.not_mem_nil,or_false] at hq
  rcases hq with rfl|rfl|rfl|rfl|rfl|rfl
  · exact fun x hx=>by rw [List.mem_singleton.1 hx];exact bdS fun t e=>by cases e;show 1 < 6;decide
  · trivial
  · exact fun x hx=>by rw [List.mem_singleton.1 hx];exact bdS fun t e=>by cases e
  · exact fun x hx=>by rw [List.mem_singleton.1 hx];exact bdS fun t e=>by cases e
  · exact h1
  · exact h2
set_option maxHeartbeats 16000000 in
theorem meets1_ac [GlobF Tryz.prog] (X1 X2 : AObj) (a b : List Sp) (l : Nat) (hla : a.length + b.length < 8796093022208) (hlb : b.length < 8796093022208)
    (hy : ∀ (o a' b' : List Sp) (s : Sp) (ex : List AObj),o.length < 8796093022208 → YW Tryz.prog l [eS s] (HM X1 X2 o a' b' ++ ex) (fun bo h'=>bo = true ∧ ∃ ex',h' = HM X1 X2 (o ++ [s]) a' b' ++ ex')) :
    AC Tryz.prog 250 [.sc (.func (.yield l) #[] #[]),.bp 2 0,.bp 3 0] (HM X1 X2 [] a b) (fun _ h'=>∃ a' b' ex,h' = HM X1 X2 (meetL a b) a' b' ++ ex):=by
  refine AC.bd (enters_of Tryz.func250 (by kernel_rfl) rfl) fun hbd=>?_
  refine AC.of_body Tryz.func250 Tryz.ntmps250 rfl rfl rfl ?_
  repeat' first
 | refine W_seq ?_
 | refine tn ?_
 | refine W_block ?_
 | refine W_label ?_
 | (refine W_scope ?_)
  refine W_loopC (X:=List Sp × List Sp × List Sp) (fun _=>[(0,.sc (.func (.yield l) #[] #[])),(1,.bp 2 0),(2,.bp 3 0)]) (fun x=>HM X1 X2 x.1 x.2.1 x.2.2)
    (fun x=>x.1 ++ meetL x.2.1 x.2.2 = meetL a b ∧ x.1.length + x.2.1.length + x.2.2.length ≤ a.length + b.length) (fun x=>x.2.1.length + x.2.2.length) ([],a,b) ⟨rfl,by simp⟩ ⟨rfl,rfl,rfl,trivial⟩ rfl
    (fun _=>Nat.le_refl _) (fun x _=>HM_bd hbd _ _ _) (fun x _=>look_all .any (by simp;exact ⟨.sc _,.bp (by decide),.bp (by decide)⟩)) (fun x r hr=>by cases hr) ?_
  rintro ⟨o,a',b'⟩ ⟨hI,hS⟩
  simp only at hI hS ⊢
  rcases a' with _ | ⟨s,a1⟩
  · rw [meetL_nil,List.append_nil] at hI
    subst hI
    repeat' first
 | (apply p1 (hd:=rfl);case hop=>first|(apply D_move;rfl)|(apply D_pickT;rfl;rfl)|(apply D_pickF;rfl;rfl)|(apply D_int;rfl;rfl;rfl)|(apply D_lenM;rfl))
 | refine W_seq ?_
 | refine W_region ?_
 | (refine idC ?_;first|refine c0 rfl ?_|refine cs rfl (fun _=>?_) (fun _=>?_))
 | refine WL_nil ?_
 | (refine idG ?_;first|refine g0t rfl rfl rfl ?_|refine gr rfl rfl ?_|refine gs rfl rfl (fun _=>?_) (fun _=>?_))
 | refine tn ?_
 | refine te ?_
 | (refine idB ?_;refine bh rfl ?_)
 | refine W_skip ?_
 | refine W_block ?_
 | refine W_exit ?_
 | refine sn ?_
 | (refine idLd ?_;refine p1L (D_loadB1 rfl rfl rfl) rfl ?_)
 | (refine idW ?_;refine W_draw1 rfl ?_)
 | (apply d1 (hd:=rfl);case hop=>first|(apply D_load1;rfl)|(apply D_fld;rfl)|(apply D_idxA;rfl;rfl;omega;(first|omega|(simp;done)|(simp;omega))))
 | (refine idDn ?_;refine dL _ (fun hp' hs=>D_loadB1 rfl (hs.trans rfl) rfl) rfl ?_)
    all_goals first
      | exact ret0 (.inr rfl) rfl rfl ⟨_,_,[],(List.append_nil _).symm⟩
      | (exfalso;simp only [List.length_cons,List.length_nil] at *;omega)
      | skip
  · rcases b' with _ | ⟨r,b1⟩
    · rw [meetL_nil2,List.append_nil] at hI
      subst hI
      repeat' first
 | (apply p1 (hd:=rfl);case hop=>first|(apply D_move;rfl)|(apply D_pickT;rfl;rfl)|(apply D_pickF;rfl;rfl)|(apply D_int;rfl;rfl;rfl)|(apply D_lenM;rfl))
 | refine W_seq ?_
 | refine W_region ?_
 | (refine idC ?_;first|refine c0 rfl ?_|refine cs rfl (fun _=>?_) (fun _=>?_))
 | refine WL_nil ?_
 | (refine idG ?_;first|refine g0t rfl rfl rfl ?_|refine gr rfl rfl ?_|refine gs rfl rfl (fun _=>?_) (fun _=>?_))
 | refine tn ?_
 | refine te ?_
 | (refine idB ?_;refine bh rfl ?_)
 | refine W_skip ?_
 | refine W_block ?_
 | refine W_exit ?_
 | refine sn ?_
 | (refine idLd ?_;refine p1L (D_loadB1 rfl rfl rfl) rfl ?_)
 | (refine idW ?_;refine W_draw1 rfl ?_)
 | (apply d1 (hd:=rfl);case hop=>first|(apply D_load1;rfl)|(apply D_fld;rfl)|(apply D_idxAn;rfl;rfl;(first|omega|(simp;done)))|(apply D_idxA;rfl;rfl;omega;(first|omega|(simp;done)|(simp;omega))))
 | (refine idDn ?_;refine dL _ (fun hp' hs=>D_loadB1 rfl (hs.trans rfl) rfl) rfl ?_)
      all_goals first
        | exact ret0 (.inr rfl) rfl rfl ⟨_,_,[],(List.append_nil _).symm⟩
        | (exfalso;simp only [List.length_cons,List.length_nil] at *;omega)
        | skip
    · have hyi:=hy o (s :: a1) (r :: b1) ⟨max s.f r.f,min s.t r.t⟩ [.cells (sC ⟨max s.f r.f,min s.t r.t⟩)] (by omega)
      rw [meetL_cons] at hI
      have hnot : Value.bool (bNot true) = .bool false:=by simp [bNot]
      simp only [List.length_cons] at hS
      repeat' first
 | (apply p1 (hd:=rfl);case hop=>first|(apply D_move;rfl)|exact D_sc (D_not rfl) hnot|(apply D_pickT;rfl;rfl)|(apply D_pickF;rfl;rfl)|(apply D_int;rfl;rfl;rfl)|(apply D_lenM;rfl)|(apply D_slVlM;rfl;rfl;all_goals first|omega|((repeat rw [w64 _ (by omega) (by omega)]);omega)|decide)|exact D_fldB rfl)
 | refine W_seq ?_
 | refine W_region ?_
 | (refine idC ?_;first|refine c0 rfl ?_|refine cs rfl (fun _=>?_) (fun _=>?_))
 | refine WL_nil ?_
 | (refine idG ?_;first|refine g0t rfl rfl rfl ?_|refine gr rfl rfl ?_|refine gs rfl rfl (fun _=>?_) (fun _=>?_))
 | refine tn ?_
 | refine bn ?_
 | refine te ?_
 | (refine idB ?_;refine bh rfl ?_)
 | refine W_skip ?_
 | refine W_block ?_
 | refine W_exit ?_
 | refine sn ?_
 | (refine idLd ?_;first|refine p1L (D_loadB1 rfl rfl rfl) rfl ?_|refine p1L (D_loadBA rfl rfl rfl) rfl ?_)
 | (refine idS ?_;refine pS (S_store rfl rfl rfl rfl rfl rfl rfl) ?_)
 | (refine m_yield rfl rfl rfl hyi ?_;rintro bo _ ⟨rfl,ex,rfl⟩)
 | (refine idW ?_;first|refine W_draw0 rfl ?_|refine W_draw1 rfl ?_)
 | (apply d1 (hd:=rfl);case hop=>first|exact D_max rfl rfl|exact D_min rfl rfl|(apply D_load1;rfl)|(apply D_fld;rfl)|(apply D_int;rfl;rfl;rfl)|(apply D_idxAn;rfl;rfl;(first|omega|(simp;done)))|exact D_build rfl)
 | (refine idDn ?_;first|refine dL _ (fun hp' hs=>D_loadB1 rfl (hs.trans rfl) rfl) rfl ?_|refine dS (S_store rfl rfl rfl rfl rfl rfl rfl) rfl ?_|refine dV (S_alloc 6 rfl) rfl rfl ?_)
 | (refine WD_nil (by first|decide +kernel|kernel_rfl|rfl) ?_)
      all_goals first
        | (rw [if_pos (by assumption : max s.f r.f < min s.t r.t),if_pos (by assumption : s.t < r.t),← List.append_assoc] at hI
           exact ⟨rfl,(_,a1,r :: b1),⟨hI,by simp;omega⟩,by simp,⟨rfl,rfl,rfl,trivial⟩,ex,rfl⟩)
        | (rw [if_pos (by assumption : max s.f r.f < min s.t r.t),if_neg (Int.not_lt.2 (by assumption : r.t ≤ s.t)),← List.append_assoc] at hI
           exact ⟨rfl,(_,s :: a1,b1),⟨hI,by simp;omega⟩,by simp,⟨rfl,rfl,rfl,trivial⟩,ex,rfl⟩)
        | (rw [if_neg (Int.not_lt.2 (by assumption : min s.t r.t ≤ max s.f r.f)),if_pos (by assumption : s.t < r.t),List.nil_append] at hI
           exact ⟨rfl,(_,a1,r :: b1),⟨hI,by simp;omega⟩,by simp,⟨rfl,rfl,rfl,trivial⟩,_,rfl⟩)
        | (rw [if_neg (Int.not_lt.2 (by assumption : min s.t r.t ≤ max s.f r.f)),if_neg (Int.not_lt.2 (by assumption : r.t ≤ s.t)),List.nil_append] at hI
           exact ⟨rfl,(_,s :: a1,b1),⟨hI,by simp;omega⟩,by simp,⟨rfl,rfl,rfl,trivial⟩,_,rfl⟩)
        | (exfalso;simp only [List.length_cons,List.length_nil] at *;omega)
        | skip
set_option maxHeartbeats 16000000 in
theorem shared_pc [GlobF Tryz.prog] (a b : List Sp) (hla : a.length + b.length < 8796093022208) (hlb : b.length < 8796093022208) : PC Tryz.prog 196 [sl2 a,sl2 b] (sl2 (meetL a b)):=by
  refine PC.of_body Tryz.func196 Tryz.ntmps196 rfl rfl rfl ?_
  repeat' first
 | (refine WL_adoptC 0 0 2 62 rfl rfl ?_)
 | (apply p1 (hd:=rfl);case hop=>first|(apply D_move;rfl)|(apply D_assign;rfl))
 | refine W_seq ?_
 | refine W_region ?_
 | refine WL_nil ?_
 | refine tn ?_
 | refine W_block ?_
 | (refine idA ?_;refine m_alloc rfl ?_)
 | (refine m_call (d:=9) (meets_ac a b _) rfl rfl rfl ?_;rintro _ _ ⟨rfl,rfl⟩)
  refine W_range (.inl rfl) fun l=>?_
  refine AC.mono (meets1_ac _ _ a b l hla hlb ?_) ?_
  · intro o a' b' s ex ho
    refine YW.round (r:=5) rfl rfl rfl ?_
    repeat' first
 | refine W_region ?_
 | refine WL_nil ?_
 | (refine idA ?_;refine m_var rfl rfl rfl rfl rfl rfl rfl ?_)
    refine ⟨rfl,rfl,?_⟩
    repeat' first
 | (apply p1 (hd:=rfl);case hop=>first|(apply D_loadW;rfl;rfl)|(apply D_lit;rfl;rfl;rfl;rfl))
 | refine W_region ?_
 | refine WL_nil ?_
 | refine bn ?_
 | refine W_block ?_
 | (refine idLd ?_;refine p1L (D_loadB1 rfl rfl rfl) rfl ?_)
 | (refine idS ?_;refine pS (S_store rfl rfl rfl rfl rfl rfl rfl) ?_)
 | (refine idAp ?_;refine m_app rfl rfl (by first|rfl|assumption|exact get_set (by assumption)|exact get_set (get_set (by assumption))|exact get_set (get_set (get_set (by assumption)))|((repeat first|assumption|exact get_last|(refine get_last2 ?_;focus (simp;done))|apply get_set|apply get_app|(apply get_ne;focus omega));done)) ?_ rfl rfl ?_ ?_ rfl ?_;(first|rfl|focus (simp only [List.length_map,List.length_append,List.length_cons,List.length_nil];omega)|focus (simp;done)|focus (simp;omega));(first|focus (simp only [List.length_map,List.length_append,List.length_cons,List.length_nil];omega)|focus (simp;done)|focus (simp;omega));(first|focus (simp only [List.length_map,List.length_append,List.length_cons,List.length_nil];omega)|focus (simp;done)|focus (simp;omega)))
    refine ⟨rfl,⟨_,_,rfl⟩,rfl,ex,?_⟩
    simp
  · rintro v h' ⟨a',b',ex,rfl⟩
    refine ⟨_,_,rfl,by decide,?_⟩
    repeat' first
 | (apply p1 (hd:=rfl);case hop=>first|(apply D_assign;rfl))
 | refine W_seq ?_
 | refine W_region ?_
 | refine WL_nil ?_
 | refine tn ?_
 | refine bn ?_
 | refine W_ret ?_
 | (refine idR ?_;first|refine rL1 rfl (by first|exact trivial|exact ⟨rfl,trivial⟩) (by first|exact ResO.tmp rfl|exact ResO.cellBA rfl rfl rfl|exact ResO.cellB1 rfl rfl rfl|exact ResO.cellEA rfl rfl|exact ResO.cellE1 rfl) ?_)
 | (refine idLd ?_;refine p1L (D_loadB1 rfl rfl rfl) rfl ?_)
    all_goals exact Le.tokq rfl
abbrev HR (o : List Sp) (at_ : Int) : List AObj:=[.cells [.sl (some 1) 2 (o.map sC)],.tail o.length 2 62,.cells [.sc (.int .i64 at_)]]
theorem hr3 {n m e : Nat} {x y : List (List AV)} {z : AObj} (h1 : x = y) (h2 : n = m) : [AObj.cells [.sl (some 1) 2 x],.tail n 2 e,z] = [.cells [.sl (some 1) 2 y],.tail m 2 e,z]:=by rw [h1,h2]
def oneR (a b : Int) : List Sp:=if a < b then [⟨a,b⟩] else []
set_option maxHeartbeats 4000000 in
theorem rest1_ac [GlobF Tryz.prog] (o : List Sp) (a b : Int) (ho : o.length < 8796093022208) : AC Tryz.prog 231 [.sc (.int .i64 b),.bp 2 0,.bp 0 0] (HR o a) (fun v h'=>v = .tu [] ∧ h' = HR (o ++ oneR a b) a):=by
  refine AC.of_body Tryz.func231 Tryz.ntmps231 rfl rfl rfl ?_
  repeat' first
 | (apply p1 (hd:=rfl);case hop=>first|(apply D_move;rfl)|(apply D_int;rfl;rfl;rfl)|(apply D_lit;rfl;rfl;rfl;rfl)|exact D_build rfl)
 | refine W_seq ?_
 | refine W_region ?_
 | (refine idC ?_;refine cs rfl (fun _=>?_) (fun _=>?_))
 | refine WL_nil ?_
 | refine tn ?_
 | refine W_skip ?_
 | (refine idLd ?_;refine p1L (D_loadB1 rfl rfl rfl) rfl ?_)
 | (refine idS ?_;refine pS (S_store rfl rfl rfl rfl rfl rfl rfl) ?_)
 | (refine idAp ?_;refine m_appB rfl rfl rfl (by first|rfl|assumption|exact get_set (by assumption)|exact get_set (get_set (by assumption))|exact get_set (get_set (get_set (by assumption)))|((repeat first|assumption|exact get_last|(refine get_last2 ?_;focus (simp;done))|apply get_set|apply get_app|(apply get_ne;focus omega));done)) ?_ rfl rfl ?_ ?_ rfl ?_;(first|rfl|focus (simp only [List.length_map,List.length_append,List.length_cons,List.length_nil];omega)|focus (simp;done)|focus (simp;omega));(first|focus (simp only [List.length_map,List.length_append,List.length_cons,List.length_nil];omega)|focus (simp;done)|focus (simp;omega));(first|focus (simp only [List.length_map,List.length_append,List.length_cons,List.length_nil];omega)|focus (simp;done)|focus (simp;omega)))
  all_goals first
    | exact Nat.le_refl _
    | (rename_i k1
       refine ret0 (.inr rfl) rfl rfl ⟨rfl,?_⟩
       rw [show oneR a b = [⟨a,b⟩] by unfold oneR;rw [if_pos k1]]
       refine hr3 ?_ ?_
       · rw [List.map_append];rfl
       · rw [List.length_map,List.length_append];rfl)
    | (rename_i k1
       refine ret0 (.inr rfl) rfl rfl ⟨rfl,?_⟩
       unfold oneR;rw [if_neg (Int.not_lt.2 k1)];simp;done)
    | skip
set_option maxHeartbeats 16000000 in
theorem rest_pc [GlobF Tryz.prog] (l : List Sp) (hl : l.length + 1 < 8796093022208) : PC Tryz.prog 199 [sl2 l] (sl2 (restL loT l)):=by
  refine PC.of_body Tryz.func199 Tryz.ntmps199 rfl rfl rfl ?_
  repeat' first
 | (refine m_alloc (t:=2) rfl ?_)
 | (refine WL_adoptC 0 0 2 62 rfl rfl ?_)
 | (apply p1 (hd:=rfl);case hop=>first|(apply D_move;rfl)|(apply D_assign;rfl)|(apply D_lenM;rfl)|exact D_mkfn rfl)
 | refine W_seq ?_
 | refine W_region ?_
 | refine WL_nil ?_
 | refine tn ?_
 | refine W_block ?_
 | (refine idA ?_;refine m_alloc rfl ?_)
 | (refine idS ?_;refine pS (S_store rfl rfl rfl rfl rfl rfl rfl) ?_)
  refine W_loopL (X:=Nat × List Sp × Int) (fun x=>[(3,.bp 0 0),(4,.bp 2 0),(5,.fn (.func 231) [] [.bp 2 0,.bp 0 0]),(9,sl2 l),(10,.sc (.int .i64 (l.length : Int))),(11,.sc (.int .i64 (x.1 : Int)))]) (fun x=>HR x.2.1 x.2.2)
    (fun x=>x.1 ≤ l.length ∧ x.2.1.length ≤ x.1 ∧ x.2.1 ++ restL x.2.2 (l.drop x.1) = restL loT l) (fun x=>l.length - x.1) (0,[],loT) ⟨Nat.zero_le _,Nat.le_refl _,rfl⟩ ⟨rfl,rfl,rfl,rfl,rfl,rfl,trivial⟩ rfl ?_
  rintro ⟨i,o,a⟩ ⟨hi,ho,hI⟩
  simp only at hi ho hI ⊢
  have hone : ∀ b,(oneR a b).length ≤ 1:=fun b=>by unfold oneR;split <;> simp
  by_cases hil : i < l.length
  · rw [List.drop_eq_getElem_cons hil,show restL a (l[i] :: l.drop (i + 1)) = oneR a l[i].f ++ restL l[i].t (l.drop (i + 1)) from rfl] at hI
    repeat' first
 | (apply p1 (hd:=rfl);case hop=>first|(apply D_move;rfl)|(apply D_load1;rfl)|(apply D_fld;rfl)|(apply D_int;rfl;rfl;rfl)|(apply D_loadW;rfl;rfl)|(apply D_idxAn;rfl;rfl;(first|omega|(simp;done))))
 | refine W_seq ?_
 | refine W_region ?_
 | (refine idC ?_;refine cs rfl (fun _=>?_) (fun _=>?_))
 | refine WL_nil ?_
 | refine tn ?_
 | refine bn ?_
 | refine te ?_
 | (refine idB ?_;refine bh rfl ?_)
 | refine W_skip ?_
 | refine W_block ?_
 | refine W_exit ?_
 | (refine idA ?_;refine m_var rfl rfl rfl rfl rfl rfl rfl ?_)
 | (refine idS ?_;refine pS (S_store rfl rfl rfl rfl rfl rfl rfl) ?_)
 | (refine m_callC (d:=18) (rest1_ac o a (l[i]'hil).f (by omega)) rfl rfl rfl rfl ?_;rintro _ _ ⟨rfl,rfl⟩)
    · have:=hone (l[i]'hil).f
      refine ⟨rfl,(i + 1,o ++ oneR a l[i].f,l[i].t),⟨by simp only [];omega,by simp only [List.length_append];omega,?_⟩,by simp only [];omega,⟨rfl,rfl,rfl,rfl,rfl,ieq (wsucc i (by omega)),trivial⟩,rfl⟩
      rw [← hI];exact List.append_assoc _ _ _
    · exfalso;omega
  · have e : l.drop i = []:=List.drop_eq_nil_of_le (by omega)
    rw [e,show restL a [] = oneR a hiT from rfl] at hI
    repeat' first
 | (apply p1 (hd:=rfl);case hop=>first|(apply D_move;rfl)|(apply D_assign;rfl)|(apply D_load1;rfl)|(apply D_fld;rfl)|(apply D_int;rfl;rfl;rfl)|(apply D_loadW;rfl;rfl)|(apply D_idxAn;rfl;rfl;(first|omega|(simp;done))))
 | refine W_seq ?_
 | refine W_region ?_
 | (refine idC ?_;refine cs rfl (fun _=>?_) (fun _=>?_))
 | refine WL_nil ?_
 | refine tn ?_
 | refine te ?_
 | (refine idB ?_;refine bh rfl ?_)
 | refine W_skip ?_
 | refine W_block ?_
 | refine W_exit ?_
 | refine W_ret ?_
 | (refine idR ?_;refine ret1 rfl rfl rfl ?_)
 | (refine idLd ?_;refine p1L (D_loadB1 rfl rfl rfl) rfl ?_)
 | (refine idA ?_;refine m_var rfl rfl rfl rfl rfl rfl rfl ?_)
 | (refine m_callC (d:=23) (rest1_ac o a hiT (by omega)) rfl rfl rfl rfl ?_;rintro _ _ ⟨rfl,rfl⟩)
    · exfalso;omega
    · rw [← hI];exact Le.tokq rfl
theorem rest_len : ∀ (l : List Sp) (a : Int),(restL a l).length ≤ l.length + 1
  | [],a=>by unfold restL;split <;> simp
  | s :: l,a=>by
    have:=rest_len l s.t
    unfold restL
    rw [List.length_append]
    split <;> simp <;> omega
set_option maxHeartbeats 4000000 in
theorem sand_pc [GlobF Tryz.prog] (a b : List Sp) (ha : SetP a) (hb : SetP b) (hla : a.length + b.length + 1 < 8796093022208) (hlb : b.length < 8796093022208) : PC Tryz.prog 139 [sl2 a,sl2 b] (.tu [sl2 (meetL a b),.sc (.int .i64 0)]):=by
  have s1:=set_pc a (by omega)
  have s2:=set_pc b (by omega)
  rw [← dP_T ha] at s1
  rw [← dP_T hb] at s2
  refine PC.of_body Tryz.func139 Tryz.ntmps139 rfl rfl rfl ?_
  repeat' first
 | (apply p1 (hd:=rfl);case hop=>first|(apply D_move;rfl)|(apply D_assign;rfl)|(apply D_pc s1;rfl;exact .same rfl .nil)|(apply D_pc s2;rfl;exact .same rfl .nil)|(apply D_pc (shared_pc a b (by omega) (by omega));rfl;exact .same rfl (.same rfl .nil))|(apply D_pickT;rfl;rfl)|(apply D_pickF;rfl;rfl)|(apply D_not;rfl))
 | refine W_seq ?_
 | refine W_region ?_
 | (refine idC ?_;first|refine c1 rfl ?_|refine cs rfl (fun _=>?_) (fun _=>?_))
 | refine WL_nil ?_
 | (refine idG ?_;first|refine g0f rfl rfl rfl ?_|refine gr rfl rfl ?_|refine gs rfl rfl (fun _=>?_) (fun _=>?_))
 | refine tn ?_
 | refine tr ?_
 | refine W_skip ?_
 | refine W_ret ?_
 | (refine idR ?_;refine ret2 rfl rfl rfl rfl ?_ ?_)
 | (refine Le.int ?_)
  all_goals first|rfl|contradiction|exact Le.of_eq rfl|skip
set_option maxHeartbeats 4000000 in
theorem sminus_pc [GlobF Tryz.prog] (a b : List Sp) (ha : SetP a) (hb : SetP b) (hla : a.length + b.length + 1 < 8796093022208) (hlb : b.length < 8796093022208) : PC Tryz.prog 141 [sl2 a,sl2 b] (.tu [sl2 (meetL a (restL loT b)),.sc (.int .i64 0)]):=by
  have s1:=set_pc a (by omega)
  have s2:=set_pc b (by omega)
  rw [← dP_T ha] at s1
  rw [← dP_T hb] at s2
  have hr:=rest_len b loT
  refine PC.of_body Tryz.func141 Tryz.ntmps141 rfl rfl rfl ?_
  repeat' first
 | (apply p1 (hd:=rfl);case hop=>first|(apply D_move;rfl)|(apply D_assign;rfl)|(apply D_pc s1;rfl;exact .same rfl .nil)|(apply D_pc s2;rfl;exact .same rfl .nil)|(apply D_pc (rest_pc b (by omega));rfl;exact .same rfl .nil)|(apply D_pc (shared_pc a (restL loT b) (by omega) (by omega));rfl;exact .same rfl (.same rfl .nil))|(apply D_pickT;rfl;rfl)|(apply D_pickF;rfl;rfl)|(apply D_not;rfl))
 | refine W_seq ?_
 | refine W_region ?_
 | (refine idC ?_;first|refine c1 rfl ?_|refine cs rfl (fun _=>?_) (fun _=>?_))
 | refine WL_nil ?_
 | (refine idG ?_;first|refine g0f rfl rfl rfl ?_|refine gr rfl rfl ?_|refine gs rfl rfl (fun _=>?_) (fun _=>?_))
 | refine tn ?_
 | refine tr ?_
 | refine W_skip ?_
 | refine W_ret ?_
 | (refine idR ?_;refine ret2 rfl rfl rfl rfl ?_ ?_)
 | (refine Le.int ?_)
  all_goals first|rfl|contradiction|exact Le.of_eq rfl|skip
noncomputable instance : DecidableEq Val:=fun _ _=>Classical.propDecidable _
instance : Inhabited Dat:=⟨dat0⟩
set_option maxHeartbeats 4000000 in
theorem dele_pc [GlobF Tryz.prog] (o : Int) (d : Dat) : PC Tryz.prog 81 [eD d,.ep [.sc (.int .i64 o)]] (.sc (.bool (!hasB o d))):=by
  refine PC.of_body Tryz.func81 Tryz.ntmps81 rfl rfl rfl ?_
  repeat' first
 | (apply p1 (hd:=rfl);case hop=>first|(apply D_assign;rfl)|(apply D_pc (dhas_pc o d);rfl;exact .same rfl (.same rfl .nil))|(apply D_load1;rfl)|(apply D_not;rfl)|(apply D_loadW;rfl;rfl)|(apply D_box;rfl;rfl))
 | refine W_seq ?_
 | refine W_region ?_
 | refine WL_nil ?_
 | refine tn ?_
 | refine W_ret ?_
 | (refine idR ?_;refine ret1 rfl rfl rfl ?_)
 | (refine Le.bool ?_)
  all_goals (show bNot (hasB o d) = _;unfold bNot;rfl)
set_option maxHeartbeats 4000000 in
theorem ordc_pc [GlobF Tryz.prog] (o : Int) (ho : 1 ≤ o ∧ o ≤ 4) (a b : Dat) : PC Tryz.prog 84 [eD a,eD b,.ep [.sc (.int .i64 o)]] (.sc (.int .i64 (cmpD o a b))):=by
  refine PC.of_body Tryz.func84 Tryz.ntmps84 rfl rfl rfl ?_
  repeat' first
 | (apply p1 (hd:=rfl);case hop=>first|(apply D_assign;rfl)|(apply D_pc (dcmp_pc o a b);rfl;exact .same rfl (.same rfl (.same rfl .nil)))|(apply D_load1;rfl)|(apply D_loadW;rfl;rfl)|(apply D_box;rfl;rfl))
 | refine W_seq ?_
 | refine W_region ?_
 | refine WL_nil ?_
 | refine tn ?_
 | refine W_ret ?_
 | (refine idR ?_;refine ret1 rfl rfl rfl ?_)
 | (refine Le.int ?_)
  all_goals (rw [if_pos ho];rfl)
instance : Inhabited Val:=⟨val0⟩
theorem take_map_len {α β : Type} (l : List α) (f : α → β) : (l.map f).take l.length = l.map f:=List.take_of_length_le (by simp)
instance : Inhabited Dat:=⟨dat0⟩
theorem dC_enc (d : Dat) : dC d = (encD d).map .sc:=rfl
theorem dC_len (d : Dat) : (dC d).length = 9:=rfl
theorem sortD_ac [GlobF Tryz.prog] {h : List AObj} {r : Nat} {l : List Dat} {sp : List AV} (o : Int) (ho : 1 ≤ o ∧ o ≤ 4) (hr : h[r]? = some (.cells ((l.map dC).flatten ++ sp))) (hne : 0 < l.length) (hl : l.length < 4611686018427387904) :
    AC Tryz.prog 83 [.mr r 0 l.length,.fn (.func 84) [] [.ep [.sc (.int .i64 o)]]] h (fun v h'=>v = .tu [] ∧ h' = h.set r (.cells (((l.mergeSort fun x y=>!(ltOf (cmpD o) y x)).map dC).flatten ++ sp))) :=
  sort_ac Tryz.laysSD Tryz.isAgg48 Tryz.sizeOf48 encD dC dC_enc (fun _=>rfl) (fun x v hv=>by simp [encD] at hv;rcases hv with rfl|rfl|rfl|rfl|rfl|rfl|rfl|rfl|rfl <;> rfl) (cmpD o) (wc_cmpD o).swo (ltOf_tot (wc_cmpD o) (cmpD_z o)) 84 [.ep [.sc (.int .i64 o)]] _
    (fun G v hv=>fn_inv hv ⟨Le.of_eq rfl,trivial⟩) (fun x y=>ordc_pc o ho x y) hr hne hl
theorem sortD_ac' [GlobF Tryz.prog] {h : List AObj} {r n : Nat} {l : List Dat} {sp : List AV} (o : Int) (ho : 1 ≤ o ∧ o ≤ 4) (hn : l.length = n) (hr : h[r]? = some (.cells ((l.map dC).flatten ++ sp))) (hl : l.length < 4611686018427387904) :
    AC Tryz.prog 83 [.mr r 0 n,.fn (.func 84) [] [.ep [.sc (.int .i64 o)]]] h (fun v h'=>v = .tu [] ∧ h' = h.set r (.cells (((l.mergeSort fun x y=>!(ltOf (cmpD o) y x)).map dC).flatten ++ sp))):=by
  subst hn
  rcases Nat.eq_zero_or_pos l.length with h0|h0
  · have e : l = []:=List.length_eq_zero_iff.1 h0
    subst e
    have e2 : ([] : List Dat).mergeSort (fun x y=>!(ltOf (cmpD o) y x)) = []:=List.length_eq_zero_iff.1 (List.length_mergeSort _)
    rw [e2]
    have:=sort_none_ac Tryz.laysSD r 0 (.fn (.func 84) [] [.ep [.sc (.int .i64 o)]]) h
    rw [set_self hr];exact this
  · exact sortD_ac o ho hr h0 hl
def indexI (p : Dat → Bool) : List Dat → Int
  | []=>-1
  | x :: t=>if p x then (if indexI p t = -1 then -1 else indexI p t + 1) else 0
theorem indexI_all (p : Dat → Bool) : ∀ l : List Dat,(∀ (j : Nat) (h : j < l.length),p l[j] = true) → indexI p l = -1
  | [],_=>rfl
  | x :: t,h=>by
    have h0 : p x = true:=h 0 (by simp)
    have ih:=indexI_all p t fun j hj=>h (j + 1) (by simpa using hj)
    simp only [indexI];rw [if_pos h0,if_pos ih]
theorem indexI_at (p : Dat → Bool) : ∀ (l : List Dat) (n : Nat) (hn : n < l.length),(∀ (j : Nat) (h : j < l.length),j < n → p l[j] = true) → p l[n] = false → indexI p l = n
  | [],n,hn,_,_=>by simp at hn
  | x :: t,0,_,_,h=>by simp only [List.getElem_cons_zero] at h;simp only [indexI];rw [if_neg (by rw [h];decide)];rfl
  | x :: t,n + 1,hn,hj,h=>by
    have h0 : p x = true:=hj 0 (by simp) (by omega)
    have ih:=indexI_at p t n (by simpa using hn) (fun j hj' hlt=>by
      have:=hj (j + 1) (by simpa using hj') (by omega)
      simpa using this) (by simpa using h)
    simp only [indexI];rw [if_pos h0,ih,if_neg (by omega)];omega
set_option maxHeartbeats 8000000 in
theorem indexD_ac [GlobF Tryz.prog] {h : List AObj} {r : Nat} {l : List Dat} {sp : List AV} (o : Int) (hr : h[r]? = some (.cells ((l.map dC).flatten ++ sp))) (hl : l.length < 4611686018427387904) :
    AC Tryz.prog 134 [.mr r 0 l.length,.fn (.func 81) [] [.ep [.sc (.int .i64 o)]]] h (fun v h'=>v = .sc (.int .i64 (indexI (hasB o) l)) ∧ h' = h):=by
  refine AC.of_body Tryz.func134 Tryz.ntmps134 rfl rfl rfl ?_
  repeat' first
 | (apply p1 (hd:=rfl);case hop=>first|(apply D_move;rfl)|(apply D_assign;rfl)|(apply D_lenR;rfl))
 | refine W_seq ?_
 | refine W_region ?_
 | refine WL_nil ?_
 | refine tn ?_
 | (refine W_block ?_)
  refine W_loopL (X:=Nat) (fun i=>[(0,.mr r 0 l.length),(1,.fn (.func 81) [] [.ep [.sc (.int .i64 o)]]),(7,.sc (.int .i64 (l.length : Int))),(8,.sc (.int .i64 (i : Int)))]) (fun _=>h)
    (fun i=>i ≤ l.length ∧ ∀ (j : Nat) (h : j < l.length),j < i → hasB o l[j] = true) (fun i=>l.length - i) 0 ⟨Nat.zero_le _,fun j h hj=>absurd hj (Nat.not_lt_zero j)⟩ ⟨rfl,rfl,rfl,rfl,trivial⟩ rfl ?_
  rintro i ⟨hi,hz⟩
  repeat' first
 | (apply p1 (hd:=rfl);case hop=>first|(apply D_move;rfl)|(apply D_assign;rfl)|(apply D_int;rfl;rfl;rfl)|(apply D_ixRn;rfl;rfl;(first|omega|(simp;done))))
 | refine W_seq ?_
 | refine W_region ?_
 | (refine idC ?_;refine cs rfl (fun _=>?_) (fun _=>?_))
 | refine WL_nil ?_
 | refine tn ?_
 | refine te ?_
 | (refine idB ?_;refine bh rfl ?_)
 | refine W_skip ?_
 | refine W_block ?_
 | refine W_exit ?_
 | (refine W_ret ?_)
  · have hi1 : i < l.length:=by omega
    have he1 : 0 + i * 9 = i * 9:=Nat.zero_add _
    repeat' first
 | (refine p1L (d:=15) (D_loadRA (i:=i) rfl hr dC_len hi1 he1) rfl ?_)
 | (apply p1 (hd:=rfl);case hop=>first|(apply D_move;rfl)|(apply D_assign;rfl)|(apply D_add1;rfl;rfl;omega)|(apply D_pcC (ys:=[eD l[i]]) (ys':=[.ep [.sc (.int .i64 o)]]) (dele_pc o l[i]);rfl;exact .same rfl .nil;exact ⟨Le.of_eq rfl,trivial⟩))
 | refine W_seq ?_
 | refine W_region ?_
 | (refine idC ?_;refine cs rfl (fun _=>?_) (fun _=>?_))
 | refine WL_nil ?_
 | refine tn ?_
 | refine tr ?_
 | refine br ?_
 | refine bn ?_
 | refine W_skip ?_
 | (refine W_ret ?_)
    · rename_i hx
      have hx' : hasB o l[i] = false:=by simpa using hx
      exact retK1 (.inl rfl) rfl rfl (ResO.tmp rfl) ⟨by rw [indexI_at (hasB o) l i hi1 hz hx'],rfl⟩
    · rename_i hx
      have hx' : hasB o l[i] = true:=by simpa using hx
      refine ⟨rfl,i + 1,⟨by omega,fun j h hj=>?_⟩,by omega,⟨rfl,rfl,rfl,rfl,trivial⟩,rfl⟩
      by_cases e : j = i
      · subst e;exact hx'
      · exact hz j h (by omega)
  · have hend : i = l.length:=by omega
    exact retK1 (.inl rfl) rfl rfl (ResO.tmp rfl) ⟨by rw [indexI_all (hasB o) l fun j h=>hz j h (by omega)],rfl⟩
set_option maxHeartbeats 4000000 in
theorem cloneD_ac [GlobF Tryz.prog] {h : List AObj} {tok : Option Nat} (l : List Dat) (hne : 0 < l.length) (hl : l.length < 1759218604500) :
    AC Tryz.prog 80 [.sl tok 9 (l.map dC)] h (fun v h'=>∃ sp,v = .mr (h.length + 1) 0 l.length ∧ h' = h ++ [.dead,.cells ((l.map dC).flatten ++ sp)]):=by
  have hnn : l.map dC ≠ []:=by cases l with|nil=>simp at hne|cons a l=>simp
  refine AC.of_body Tryz.func80 Tryz.ntmps80 rfl rfl rfl ?_
  repeat' first
 | (refine m_slnil rfl rfl ?_;rintro b hb)
 | refine m_lit (d:=5) rfl rfl rfl rfl rfl rfl ?_
 | (refine m_appRB (d:=7) rfl rfl get_last hnn rfl (.inr (by rw [List.length_map];omega)) (by rw [List.length_map];omega) rfl ?_;intro sp)
 | (apply p1 (hd:=rfl);case hop=>first|(apply D_move;rfl)|(apply D_assign;rfl))
 | refine W_seq ?_
 | refine W_region ?_
 | (refine idC ?_;refine cs rfl (fun _=>?_) (fun _=>?_))
 | refine WL_nil ?_
 | refine tn ?_
 | refine tr ?_
 | refine W_skip ?_
 | (refine W_ret ?_)
  · rename_i hb'
    first
      | exact absurd (hb hb') hnn
      | exact absurd (hb rfl) hnn
  · exact retK1 (.inl rfl) rfl rfl (ResO.tmp rfl) ⟨sp,by simp,by simp⟩
attribute [local irreducible] compL in
set_option maxHeartbeats 16000000 in
theorem compactD_ac [GlobF Tryz.prog] {h : List AObj} {r : Nat} {l : List Dat} {sp : List AV} (hr : h[r]? = some (.cells ((l.map dC).flatten ++ sp))) (hl : l.length < 4611686018427387904) :
    AC Tryz.prog 85 [.mr r 0 l.length] h (fun v h'=>∃ sp',v = .mr r 0 (compL l).length ∧ h' = h.set r (.cells (((compL l).map dC).flatten ++ sp'))):=by
  refine AC.of_body Tryz.func85 Tryz.ntmps85 rfl rfl rfl ?_
  repeat' first
 | (apply p1 (hd:=rfl);case hop=>first|(apply D_move;rfl)|(apply D_assign;rfl)|(apply D_int;rfl;rfl;rfl)|(apply D_lenR;rfl))
 | refine W_seq ?_
 | refine W_region ?_
 | (refine idC ?_;refine cs rfl (fun _=>?_) (fun _=>?_))
 | refine WL_nil ?_
 | refine tn ?_
 | refine tr ?_
 | refine W_skip ?_
 | refine W_block ?_
 | (refine W_ret ?_)
  · rename_i h1
    have e : compL l = l:=by
      match l,h1 with
      | [],_=>unfold compL;rfl
      | [x],_=>unfold compL;rfl
      | _ :: _ :: _,h1=>simp at h1;omega
    exact retK1 (.inl rfl) rfl rfl (ResO.tmp rfl) ⟨sp,by rw [e],by rw [e];exact (set_self hr).symm⟩
  rename_i h1
  refine W_loopL (X:=Nat) (fun j=>[(0,.mr r 0 l.length),(3,.sc (.int .i64 ((j + 1 : Nat) : Int)))]) (fun _=>h)
    (fun j=>j + 1 ≤ l.length ∧ compL (l.take (j + 1)) = l.take (j + 1)) (fun j=>l.length - j) 0 ⟨by omega,by
      match l,h1 with
      | x :: t,_=>unfold compL;rfl⟩ ⟨rfl,rfl,trivial⟩ rfl ?_
  rintro j ⟨hj,hcj⟩
  repeat' first
 | (apply p1 (hd:=rfl);case hop=>first|(apply D_move;rfl)|(apply D_assign;rfl)|(apply D_int;rfl;rfl;rfl)|(apply D_lenR;rfl))
 | refine W_seq ?_
 | refine W_region ?_
 | (refine idC ?_;refine cs rfl (fun _=>?_) (fun _=>?_))
 | refine WL_nil ?_
 | refine tn ?_
 | refine te ?_
 | (refine idB ?_;refine bh rfl ?_)
 | refine W_skip ?_
 | refine W_block ?_
 | refine W_exit ?_
 | refine W_ret ?_
 | (refine idW ?_;refine W_draw0 rfl ?_)
 | (apply d1 (hd:=rfl);case hop=>first|(apply D_move;rfl)|(apply D_ixRn;rfl;rfl;(first|omega|(simp;done))))
 | (fail)
  · have hi1 : j + 1 < l.length:=by omega
    have hi0 : j < l.length:=by omega
    have he1 : 0 + (j + 1) * 9 = (j + 1) * 9:=Nat.zero_add _
    have he0 : 0 + j * 9 = j * 9:=Nat.zero_add _
    have hct:=compL_take l j hi1
    repeat' first
 | (refine dL (d:=19) _ (fun _ hs=>D_loadRA (i:=j + 1) rfl (hs.trans hr) dC_len hi1 he1) rfl ?_)
 | (refine dL (d:=24) _ (fun _ hs=>D_loadRA (i:=j) rfl (hs.trans hr) dC_len hi0 he0) rfl ?_)
 | (apply p1 (hd:=rfl);case hop=>first|(apply D_move;rfl)|(apply D_assign;rfl)|(apply D_add1;rfl;rfl;omega)|(apply D_slRl;rfl;rfl;all_goals first|omega|((repeat rw [w64 _ (by omega) (by omega)]);omega)|decide))
 | refine W_seq ?_
 | refine W_region ?_
 | (refine idC ?_;refine cs rfl (fun _=>?_) (fun _=>?_))
 | refine WL_nil ?_
 | refine tn ?_
 | refine bn ?_
 | refine W_skip ?_
 | refine W_block ?_
 | (apply d1 (hd:=rfl);case hop=>first|(apply D_move;rfl)|(apply D_sub1;rfl;rfl;omega)|(apply D_ixRn;rfl;rfl;(first|omega|(simp;done)))|exact D_eqA rfl rfl rfl rfl rfl rfl rfl)
 | (refine WD_nil (by first|decide +kernel|kernel_rfl|rfl) ?_)
    · rename_i heq
      have hxy : l[j + 1] = l[j]:=encD_inj heq
      rw [if_pos hxy.symm,List.append_nil,hcj] at hct
      refine W_loopL (X:=Nat × Nat × List Dat) (fun x=>[(0,.mr r 0 l.length),(3,.sc (.int .i64 (x.1 : Int))),(4,.mr r (0 + (j + 1) * 9) (l.length - (j + 1))),(5,.sc (.int .i64 ((x.2.1 + 1 : Nat) : Int)))]) (fun x=>h.set r (.cells ((x.2.2.map dC).flatten ++ sp)))
        (fun x=>j + 1 + x.2.1 + 1 ≤ l.length ∧ x.2.2.length = l.length ∧ x.1 ≤ j + 1 + x.2.1 ∧ compL (l.take (j + 1 + x.2.1 + 1)) = x.2.2.take x.1 ∧ x.2.2.drop (j + 1 + x.2.1) = l.drop (j + 1 + x.2.1)) (fun x=>l.length - x.2.1) (j + 1,0,l) ⟨by dsimp only;omega,rfl,by dsimp only;omega,hct,rfl⟩ ⟨rfl,rfl,rfl,rfl,trivial⟩ (set_self hr) ?_
      rintro ⟨k,q,R⟩ ⟨g1,g2,g3,g4,g5⟩
      dsimp only at g1 g2 g3 g4 g5 ⊢
      have hr2 : (h.set r (.cells ((R.map dC).flatten ++ sp)))[r]? = some (.cells ((R.map dC).flatten ++ sp)):=get_set hr
      repeat' first
 | (apply p1 (hd:=rfl);case hop=>first|(apply D_move;rfl)|(apply D_int;rfl;rfl;rfl)|(apply D_lenR;rfl)|(apply D_slRl;rfl;rfl;all_goals first|omega|((repeat rw [w64 _ (by omega) (by omega)]);omega)|decide))
 | refine W_seq ?_
 | refine W_region ?_
 | (refine idC ?_;refine cs rfl (fun _=>?_) (fun _=>?_))
 | refine WL_nil ?_
 | refine tn ?_
 | refine te ?_
 | (refine idB ?_;refine bh rfl ?_)
 | refine W_skip ?_
 | refine W_block ?_
 | refine W_exit ?_
 | (refine idW ?_;refine W_draw0 rfl ?_)
 | (apply d1 (hd:=rfl);case hop=>first|(apply D_move;rfl)|(apply D_ixRn;rfl;rfl;(first|omega|(simp;done))))
 | (fail)
      · have hq1 : j + 1 + q + 1 < R.length:=by omega
        have hq0 : j + 1 + q < R.length:=by omega
        have hkR : k < R.length:=by omega
        have he1 : 0 + (j + 1) * 9 + (q + 1) * 9 = (j + 1 + q + 1) * 9:=by omega
        have he0 : 0 + (j + 1) * 9 + q * 9 = (j + 1 + q) * 9:=by omega
        have hek : 0 + k * 9 = k * 9:=Nat.zero_add _
        have hR1 : R[j + 1 + q + 1] = l[j + 1 + q + 1]'(by omega):=by
          have:=congrArg (·[1]?) g5
          simp only [List.getElem?_drop] at this
          rw [List.getElem?_eq_getElem hq1,List.getElem?_eq_getElem (by omega)] at this
          exact Option.some.inj this
        have hR0 : R[j + 1 + q] = l[j + 1 + q]'(by omega):=by
          have:=congrArg (·[0]?) g5
          simp only [List.getElem?_drop,Nat.add_zero] at this
          rw [List.getElem?_eq_getElem hq0,List.getElem?_eq_getElem (by omega)] at this
          exact Option.some.inj this
        have hct2:=compL_take l (j + 1 + q) (by omega)
        repeat' first
 | (refine dL (d:=38) _ (fun _ hs=>D_loadRA (i:=j + 1 + q + 1) rfl (hs.trans hr2) dC_len hq1 he1) rfl ?_)
 | (refine dL (d:=43) _ (fun _ hs=>D_loadRA (i:=j + 1 + q) rfl (hs.trans hr2) dC_len hq0 he0) rfl ?_)
 | (refine p1L (d:=50) (D_loadRA (i:=j + 1 + q + 1) rfl hr2 dC_len hq1 he1) rfl ?_)
 | (refine pS (S_storeR (i:=k) (a:=R[j + 1 + q + 1]) rfl rfl hr2 dC_len rfl hkR hek) ?_)
 | (apply p1 (hd:=rfl);case hop=>first|(apply D_move;rfl)|(apply D_assign;rfl)|(apply D_add1;rfl;rfl;omega)|(apply D_ixRn;rfl;rfl;(first|omega|(simp;done))))
 | refine W_seq ?_
 | refine W_region ?_
 | (refine idC ?_;refine cs rfl (fun _=>?_) (fun _=>?_))
 | refine WL_nil ?_
 | refine tn ?_
 | refine bn ?_
 | refine W_skip ?_
 | (apply d1 (hd:=rfl);case hop=>first|(apply D_move;rfl)|(apply D_sub1;rfl;rfl;omega)|(apply D_ixRn;rfl;rfl;(first|omega|(simp;done)))|exact D_neA rfl rfl rfl rfl rfl rfl rfl)
 | (refine WD_nil (by first|decide +kernel|kernel_rfl|rfl) ?_)
        · rename_i hne
          have hxy : l[j + 1 + q]'(by omega) ≠ l[j + 1 + q + 1]'(by omega):=fun e=>hne (by rw [hR1,hR0,e])
          rw [if_neg hxy,g4] at hct2
          refine ⟨rfl,(k + 1,q + 1,R.set k R[j + 1 + q + 1]),⟨by dsimp only;omega,by simp [g2],by dsimp only;omega,?_,?_⟩,by dsimp only;omega,⟨rfl,rfl,rfl,rfl,trivial⟩,by rw [List.set_set]⟩
          · dsimp only
            rw [show j + 1 + (q + 1) + 1 = j + 1 + q + 2 by omega,hct2,List.take_succ_eq_append_getElem (by simpa using hkR),List.take_set_of_le (Nat.le_refl _),List.getElem_set_self,hR1]
          · dsimp only
            rw [List.drop_set_of_lt (by omega),show j + 1 + (q + 1) = (j + 1 + q) + 1 by omega,← List.drop_drop,g5,List.drop_drop]
        · rename_i heq
          have hxy : l[j + 1 + q]'(by omega) = l[j + 1 + q + 1]'(by omega):=by rw [← hR1,← hR0];exact (encD_inj heq).symm
          rw [if_pos hxy,List.append_nil,g4] at hct2
          refine ⟨rfl,(k,q + 1,R),⟨by dsimp only;omega,g2,by dsimp only;omega,?_,?_⟩,by dsimp only;omega,⟨rfl,rfl,rfl,rfl,trivial⟩,rfl⟩
          · dsimp only
            rw [show j + 1 + (q + 1) + 1 = j + 1 + q + 2 by omega,hct2]
          · dsimp only
            rw [show j + 1 + (q + 1) = (j + 1 + q) + 1 by omega,← List.drop_drop,g5,List.drop_drop]
      · have hend : j + 1 + q + 1 = l.length:=by omega
        rw [hend,List.take_length] at g4
        have hkl : k ≤ R.length:=by omega
        have hlen : (compL l).length = k:=by rw [g4,List.length_take];omega
        have hcl:=row_len (l:=R) (f:=dC) (k:=9) dC_len sp
        repeat' first
 | (refine pS (S_clear (k:=9) rfl hr2 rfl (by decide) ?_) ?_;focus (rw [hcl];have:=Nat.mul_le_mul_right 3 hkl;omega))
 | (apply p1 (hd:=rfl);case hop=>first|(apply D_move;rfl)|(apply D_assign;rfl)|(apply D_slRh;rfl;rfl;all_goals first|omega|((repeat rw [w64 _ (by omega) (by omega)]);omega)|decide))
 | refine W_seq ?_
 | refine W_region ?_
 | refine WL_nil ?_
 | refine tn ?_
 | refine tr ?_
 | refine br ?_
 | (refine W_ret ?_)
        refine retK1 (.inl rfl) rfl rfl (ResO.tmp rfl) ⟨?_,?_,?_⟩
        rotate_left 1
        · rw [hlen];rfl
        rw [List.set_set]
        refine congrArg (fun x=>h.set r (AObj.cells x)) ?_
        rw [List.append_assoc]
        refine congrArg (fun x : List AV=>x ++ _) ?_
        show ((R.map dC).flatten ++ sp).take (0 + k * 9) = _
        rw [Nat.zero_add,row_take dC_len sp k hkl,g4]
    · rename_i hne
      have hxy : l[j] ≠ l[j + 1]:=fun e=>hne (by rw [e])
      rw [if_neg hxy,hcj] at hct
      refine ⟨rfl,j + 1,⟨by omega,?_⟩,by omega,⟨rfl,rfl,trivial⟩,rfl⟩
      rw [show j + 1 + 1 = j + 2 by omega,hct]
      exact (List.take_succ_eq_append_getElem hi1).symm
  · have hend : j + 1 = l.length:=by omega
    rw [hend,List.take_length] at hcj
    exact retK1 (.inl rfl) rfl rfl (ResO.tmp rfl) ⟨sp,by rw [hcj],by rw [hcj];exact (set_self hr).symm⟩
theorem compactD_ac' [GlobF Tryz.prog] {h : List AObj} {r n : Nat} {l : List Dat} {sp : List AV} (hn : l.length = n) (hr : h[r]? = some (.cells ((l.map dC).flatten ++ sp))) (hl : l.length < 4611686018427387904) :
    AC Tryz.prog 85 [.mr r 0 n] h (fun v h'=>∃ sp',v = .mr r 0 (compL l).length ∧ h' = h.set r (.cells (((compL l).map dC).flatten ++ sp'))):=by
  subst hn;exact compactD_ac hr hl
theorem indexI_cases (p : Dat → Bool) (l : List Dat) : (indexI p l = -1 ∧ l.filter p = l) ∨ ∃ n : Nat,n < l.length ∧ indexI p l = n ∧ (l.take (n + 1)).filter p = l.take n:=by
  induction l with
  | nil=>exact .inl ⟨rfl,rfl⟩
  | cons x t ih =>
    cases hp : p x with
    | false=>exact .inr ⟨0,by simp,by simp [indexI,hp],by simp [hp]⟩
    | true =>
      rcases ih with ⟨h1,h2⟩ | ⟨n,h1,h2,h3⟩
      · exact .inl ⟨by simp [indexI,hp,h1],by rw [List.filter_cons,hp,if_pos rfl,h2]⟩
      · refine .inr ⟨n + 1,by simpa using h1,?_,?_⟩
        · simp only [indexI];rw [if_pos hp,h2,if_neg (by omega)];omega
        · rw [List.take_succ_cons,List.filter_cons,hp,if_pos rfl,h3];rfl
set_option maxHeartbeats 16000000 in
theorem deleteD_ac [GlobF Tryz.prog] {h : List AObj} {r : Nat} {l : List Dat} {sp : List AV} (o : Int) (hr : h[r]? = some (.cells ((l.map dC).flatten ++ sp))) (hl : l.length < 4611686018427387904) :
    AC Tryz.prog 79 [.mr r 0 l.length,.fn (.func 81) [] [.ep [.sc (.int .i64 o)]]] h (fun v h'=>∃ sp',v = .mr r 0 (l.filter (hasB o)).length ∧ h' = h.set r (.cells (((l.filter (hasB o)).map dC).flatten ++ sp'))):=by
  have hx:=indexD_ac o hr hl
  rcases indexI_cases (hasB o) l with ⟨e,hf⟩ | ⟨n,hn,e,hf⟩
  · rw [e] at hx
    refine AC.of_body Tryz.func79 Tryz.ntmps79 rfl rfl rfl ?_
    repeat' first
 | (apply p1 (hd:=rfl);case hop=>first|(apply D_move;rfl)|(apply D_assign;rfl)|(apply D_int;rfl;rfl;rfl))
 | refine W_seq ?_
 | refine W_region ?_
 | (refine idC ?_;refine cs rfl (fun _=>?_) (fun _=>?_))
 | refine WL_nil ?_
 | refine tn ?_
 | refine tr ?_
 | refine W_skip ?_
 | refine W_block ?_
 | refine W_ret ?_
 | (refine m_call (d:=10) hx rfl rfl rfl ?_;rintro _ h2 ⟨rfl,hh⟩;have hh:=hh.symm;subst hh)
    · exact retK1 (.inl rfl) rfl rfl (ResO.tmp rfl) ⟨sp,by rw [hf],by rw [hf];exact (set_self hr).symm⟩
    all_goals (rename_i h1;exact absurd h1 (by simp))
  rw [e] at hx
  refine AC.of_body Tryz.func79 Tryz.ntmps79 rfl rfl rfl ?_
  repeat' first
 | (apply p1 (hd:=rfl);case hop=>first|(apply D_move;rfl)|(apply D_assign;rfl)|(apply D_add1;rfl;rfl;omega)|(apply D_int;rfl;rfl;rfl))
 | refine W_seq ?_
 | refine W_region ?_
 | (refine idC ?_;refine cs rfl (fun _=>?_) (fun _=>?_))
 | refine WL_nil ?_
 | refine tn ?_
 | refine tr ?_
 | refine W_skip ?_
 | refine W_block ?_
 | refine W_ret ?_
 | (refine m_call (d:=10) hx rfl rfl rfl ?_;rintro _ h2 ⟨rfl,hh⟩;have hh:=hh.symm;subst hh)
  · exfalso;omega
  refine W_loopL (X:=Nat × Nat × List Dat) (fun x=>[(0,.mr r 0 l.length),(1,.fn (.func 81) [] [.ep [.sc (.int .i64 o)]]),(5,.sc (.int .i64 (x.1 : Int))),(6,.sc (.int .i64 ((x.2.1 + 1 : Nat) : Int)))]) (fun x=>h.set r (.cells ((x.2.2.map dC).flatten ++ sp)))
    (fun x=>x.2.1 + 1 ≤ l.length ∧ x.2.2.length = l.length ∧ x.1 ≤ x.2.1 ∧ (l.take (x.2.1 + 1)).filter (hasB o) = x.2.2.take x.1 ∧ x.2.2.drop (x.2.1 + 1) = l.drop (x.2.1 + 1)) (fun x=>l.length - x.2.1) (n,n,l) ⟨by dsimp only;omega,rfl,Nat.le_refl _,hf,rfl⟩ ⟨rfl,rfl,rfl,rfl,trivial⟩ (set_self hr) ?_
  rintro ⟨k,q,R⟩ ⟨g1,g2,g3,g4,g5⟩
  dsimp only at g1 g2 g3 g4 g5 ⊢
  have hr2 : (h.set r (.cells ((R.map dC).flatten ++ sp)))[r]? = some (.cells ((R.map dC).flatten ++ sp)):=get_set hr
  repeat' first
 | (apply p1 (hd:=rfl);case hop=>first|(apply D_move;rfl)|(apply D_int;rfl;rfl;rfl)|(apply D_lenR;rfl)|(apply D_ixRn;rfl;rfl;(first|omega|(simp;done)))|(apply D_slRl;rfl;rfl;all_goals first|omega|((repeat rw [w64 _ (by omega) (by omega)]);omega)|decide))
 | refine W_seq ?_
 | refine W_region ?_
 | (refine idC ?_;refine cs rfl (fun _=>?_) (fun _=>?_))
 | refine WL_nil ?_
 | refine tn ?_
 | refine te ?_
 | (refine idB ?_;refine bh rfl ?_)
 | refine W_skip ?_
 | refine W_block ?_
 | (refine W_exit ?_)
  · have hq1 : q + 1 < R.length:=by omega
    have hq2 : q + 1 < l.length:=by omega
    have hkR : k < R.length:=by omega
    have he1 : 0 + (q + 1) * 9 = (q + 1) * 9:=Nat.zero_add _
    have hek : 0 + k * 9 = k * 9:=Nat.zero_add _
    have hR1 : R[q + 1] = l[q + 1]:=by
      have:=congrArg (·[0]?) g5
      simp only [List.getElem?_drop,Nat.add_zero] at this
      rw [List.getElem?_eq_getElem hq1,List.getElem?_eq_getElem (by omega)] at this
      exact Option.some.inj this
    have hft:=filt_succ (hasB o) l (q + 1) hq2
    rw [g4,← hR1] at hft
    repeat' first
 | (refine p1L (d:=25) (D_loadRA (i:=q + 1) rfl hr2 dC_len hq1 he1) rfl ?_)
 | (refine pS (S_storeR (i:=k) (a:=R[q + 1]) rfl rfl hr2 dC_len rfl hkR hek) ?_)
 | (apply p1 (hd:=rfl);case hop=>first|(apply D_move;rfl)|(apply D_assign;rfl)|(apply D_add1;rfl;rfl;omega)|(apply D_pcC (ys:=[eD R[q + 1]]) (ys':=[.ep [.sc (.int .i64 o)]]) (dele_pc o R[q + 1]);rfl;exact .same rfl .nil;exact ⟨Le.of_eq rfl,trivial⟩)|(apply D_not;rfl)|(apply D_loadW;rfl;rfl)|(apply D_ixRn;rfl;rfl;(first|omega|(simp;done))))
 | refine W_seq ?_
 | refine W_region ?_
 | (refine idC ?_;refine cs rfl (fun _=>?_) (fun _=>?_))
 | refine WL_nil ?_
 | refine tn ?_
 | refine bn ?_
 | refine W_skip ?_
 | (refine idA ?_;refine m_var rfl rfl rfl rfl rfl rfl rfl ?_)
    · rename_i hx
      have hx' : hasB o R[q + 1] = true:=by simpa using hx
      rw [hx',if_pos rfl] at hft
      refine ⟨rfl,(k + 1,q + 1,R.set k R[q + 1]),⟨by dsimp only;omega,by simp [g2],by dsimp only;omega,?_,?_⟩,by dsimp only;omega,⟨rfl,rfl,rfl,rfl,trivial⟩,by rw [List.set_set]⟩
      · dsimp only
        rw [hft,List.take_succ_eq_append_getElem (by simpa using hkR),List.take_set_of_le (Nat.le_refl _),List.getElem_set_self]
      · dsimp only
        rw [List.drop_set_of_lt (by omega),← List.drop_drop,g5,List.drop_drop]
    · rename_i hx
      have hx' : hasB o R[q + 1] = false:=by simpa using hx
      rw [hx'] at hft
      simp only [Bool.false_eq_true,if_false,List.append_nil] at hft
      refine ⟨rfl,(k,q + 1,R),⟨by dsimp only;omega,g2,by dsimp only;omega,hft,?_⟩,by dsimp only;omega,⟨rfl,rfl,rfl,rfl,trivial⟩,rfl⟩
      dsimp only
      rw [← List.drop_drop,g5,List.drop_drop]
  · have hend : q + 1 = l.length:=by omega
    rw [hend,List.take_length] at g4
    have hkl : k ≤ R.length:=by omega
    have hlen : (l.filter (hasB o)).length = k:=by rw [g4,List.length_take];omega
    have hcl:=row_len (l:=R) (f:=dC) (k:=9) dC_len sp
    repeat' first
 | (refine pS (S_clear (k:=9) rfl hr2 rfl (by decide) ?_) ?_;focus (rw [hcl];have:=Nat.mul_le_mul_right 9 hkl;omega))
 | (apply p1 (hd:=rfl);case hop=>first|(apply D_move;rfl)|(apply D_assign;rfl)|(apply D_slRh;rfl;rfl;all_goals first|omega|((repeat rw [w64 _ (by omega) (by omega)]);omega)|decide))
 | refine W_seq ?_
 | refine W_region ?_
 | refine WL_nil ?_
 | refine tn ?_
 | (refine W_ret ?_)
    refine retK1 (.inl rfl) rfl rfl (ResO.tmp rfl) ⟨?_,?_,?_⟩
    rotate_left 1
    · rw [hlen];rfl
    rw [List.set_set]
    refine congrArg (fun x=>h.set r (AObj.cells x)) ?_
    rw [List.append_assoc]
    refine congrArg (fun x : List AV=>x ++ _) ?_
    show ((R.map dC).flatten ++ sp).take (0 + k * 9) = _
    rw [Nat.zero_add,row_take dC_len sp k hkl,g4]
theorem dC_row {l : List Dat} : ∀ e,e ∈ l.map dC → e.length = 9:=fun e he=>by obtain ⟨a,_,rfl⟩:=List.mem_map.1 he;rfl
theorem sortD0_pc [GlobF Tryz.prog] (o : Int) : PC Tryz.prog 83 [.sl none 9 [],.fn (.func 84) [] [.ep [.sc (.int .i64 o)]]] (.tu []):=sort_none_pc Tryz.laysSD 9 _
set_option maxHeartbeats 4000000 in
theorem cloneD0_pc [GlobF Tryz.prog] : PC Tryz.prog 80 [.sl none 9 []] (.sl none 9 []):=by
  refine PC.of_body Tryz.func80 Tryz.ntmps80 rfl rfl rfl ?_
  repeat' first
 | (refine m_slnil rfl rfl ?_;rintro b hb)
 | refine m_lit (d:=5) rfl rfl rfl rfl rfl rfl ?_
 | (apply p1 (hd:=rfl);case hop=>first|(apply D_move;rfl)|(apply D_assign;rfl))
 | refine W_seq ?_
 | refine W_region ?_
 | (refine idC ?_;refine cs rfl (fun _=>?_) (fun _=>?_))
 | refine WL_nil ?_
 | refine tn ?_
 | refine tr ?_
 | refine W_skip ?_
 | refine W_ret ?_
 | (refine idR ?_;refine ret1 rfl rfl rfl ?_)
 | (refine idAp ?_;refine m_app rfl rfl (by first|rfl|assumption|exact get_set (by assumption)|exact get_set (get_set (by assumption))|exact get_set (get_set (get_set (by assumption)))|((repeat first|assumption|exact get_last|(refine get_last2 ?_;focus (simp;done))|apply get_set|apply get_app|(apply get_ne;focus omega));done)) ?_ rfl rfl ?_ ?_ rfl ?_;(first|rfl|focus (simp only [List.length_map,List.length_append,List.length_cons,List.length_nil];omega)|focus (simp;done)|focus (simp;omega));(first|focus (simp only [List.length_map,List.length_append,List.length_cons,List.length_nil];omega)|focus (simp;done)|focus (simp;omega));(first|focus (simp only [List.length_map,List.length_append,List.length_cons,List.length_nil];omega)|focus (simp;done)|focus (simp;omega)))
  all_goals first
    | exact Le.nil rfl
    | exact Le.tokq rfl
set_option maxHeartbeats 4000000 in
theorem indexD0_pc [GlobF Tryz.prog] (F : AV) : PC Tryz.prog 134 [.sl none 9 [],F] (.sc (.int .i64 (-1))):=by
  refine PC.of_body Tryz.func134 Tryz.ntmps134 rfl rfl rfl ?_
  repeat' first
 | (apply p1 (hd:=rfl);case hop=>first|(apply D_move;rfl)|(apply D_assign;rfl)|(apply D_len_sl;rfl))
 | refine W_seq ?_
 | refine W_region ?_
 | refine WL_nil ?_
 | refine tn ?_
 | (refine W_block ?_)
  refine W_rounds 1 ?_
  repeat' first
 | (refine cs rfl ?_ (fun _=>?_);focus (intro h;exfalso;revert h;decide))
 | (apply p1 (hd:=rfl);case hop=>first|(apply D_assign;rfl)|(apply D_int;rfl;rfl;rfl))
 | refine W_seq ?_
 | refine W_region ?_
 | refine WL_nil ?_
 | refine tn ?_
 | refine te ?_
 | (refine idB ?_;refine bh rfl ?_)
 | refine W_exit ?_
 | refine W_ret ?_
 | (refine idR ?_;refine ret1 rfl rfl rfl ?_)
 | (refine Le.int ?_)
  all_goals rfl
set_option maxHeartbeats 4000000 in
theorem deleteD0_pc [GlobF Tryz.prog] (o : Int) : PC Tryz.prog 79 [.sl none 9 [],.fn (.func 81) [] [.ep [.sc (.int .i64 o)]]] (.sl none 9 []):=by
  refine PC.of_body Tryz.func79 Tryz.ntmps79 rfl rfl rfl ?_
  repeat' first
 | (apply p1 (hd:=rfl);case hop=>first|(apply D_move;rfl)|(apply D_assign;rfl)|(apply D_pc (indexD0_pc (.fn (.func 81) [] [.ep [.sc (.int .i64 o)]]));rfl;exact .same rfl (.cons rfl (Le.of_eq rfl) .nil))|(apply D_int;rfl;rfl;rfl))
 | refine W_seq ?_
 | refine W_region ?_
 | (refine idC ?_;refine cs rfl (fun _=>?_) (fun _=>?_))
 | refine WL_nil ?_
 | refine tn ?_
 | refine tr ?_
 | refine W_skip ?_
 | refine W_block ?_
 | refine W_ret ?_
 | (refine idR ?_;refine ret1 rfl rfl rfl ?_)
  all_goals first
    | exact Le.of_eq rfl
    | (exfalso;rename_i hx;exact absurd hx (by simp))
set_option maxHeartbeats 4000000 in
theorem compactD0_pc [GlobF Tryz.prog] : PC Tryz.prog 85 [.sl none 9 []] (.sl none 9 []):=by
  refine PC.of_body Tryz.func85 Tryz.ntmps85 rfl rfl rfl ?_
  repeat' first
 | (apply p1 (hd:=rfl);case hop=>first|(apply D_move;rfl)|(apply D_assign;rfl)|(apply D_int;rfl;rfl;rfl)|(apply D_len_sl;rfl))
 | refine W_seq ?_
 | refine W_region ?_
 | (refine idC ?_;refine cs rfl (fun _=>?_) (fun _=>?_))
 | refine WL_nil ?_
 | refine tn ?_
 | refine tr ?_
 | refine W_skip ?_
 | refine W_block ?_
 | refine W_ret ?_
 | (refine idR ?_;refine ret1 rfl rfl rfl ?_)
  all_goals first
    | exact Le.of_eq rfl
    | (exfalso;rename_i hx;exact absurd hx (by decide))
    | skip
theorem sortC_nil {α : Type} (c : α → α → Int) : sortC c [] = []:=List.length_eq_zero_iff.1 (Nat.le_zero.1 (sortC_len c []))
set_option maxHeartbeats 4000000 in
theorem dsort_pc [GlobF Tryz.prog] (o : Int) (l : List Dat) (hl : l.length < 1759218604500) : PC Tryz.prog 35 [.sc (.int .i64 o),.sl none 9 (l.map dC)] (.sl none 9 ((dsortL o l).map dC)):=by
  by_cases ho : 1 ≤ o ∧ o ≤ 4
  rotate_left 1
  · rw [dsortL,if_neg ho]
    refine PC.of_body Tryz.func35 Tryz.ntmps35 rfl rfl rfl ?_
    repeat' first
 | (apply p1 (hd:=rfl);case hop=>first|(apply D_move;rfl)|(apply D_assign;rfl)|(apply D_pc (is_pc o);rfl;exact .same rfl .nil)|(apply D_load1;rfl)|(apply D_not;rfl)|(apply D_box;rfl;rfl))
 | refine W_seq ?_
 | refine W_region ?_
 | (refine idC ?_;refine cs rfl (fun _=>?_) (fun _=>?_))
 | refine WL_nil ?_
 | refine tn ?_
 | refine tr ?_
 | refine W_skip ?_
 | refine W_ret ?_
 | (refine idR ?_;refine ret1 rfl rfl rfl ?_)
    all_goals first
      | exact Le.nil rfl
      | (exfalso;apply ho;assumption)
      | (exfalso;rename_i hx;exact ho (by simpa using hx))
  rw [dsortL,if_pos ho]
  rcases Nat.eq_zero_or_pos l.length with h0|h0
  · have e : l = []:=List.length_eq_zero_iff.1 h0
    subst e
    rw [show ([] : List Dat).filter (hasB o) = [] from rfl,sortC_nil]
    refine PC.of_body Tryz.func35 Tryz.ntmps35 rfl rfl rfl ?_
    repeat' first
 | (apply p1 (hd:=rfl);case hop=>first|(apply D_move;rfl)|(apply D_assign;rfl)|(apply D_pc (is_pc o);rfl;exact .same rfl .nil)|(apply D_pc cloneD0_pc;rfl;exact .same rfl .nil)|(apply D_pc (deleteD0_pc o);rfl;exact .same rfl (.cons rfl (Le.of_eq rfl) .nil))|(apply D_pc (sortD0_pc o);rfl;exact .same rfl (.cons rfl (Le.of_eq rfl) .nil))|(apply D_pc compactD0_pc;rfl;exact .same rfl .nil)|(apply D_load1;rfl)|(apply D_not;rfl)|(apply D_box;rfl;rfl)|exact D_mkfn rfl)
 | refine W_seq ?_
 | refine W_region ?_
 | (refine idC ?_;refine cs rfl (fun _=>?_) (fun _=>?_))
 | refine WL_nil ?_
 | refine tn ?_
 | refine tr ?_
 | refine W_skip ?_
 | refine W_ret ?_
 | (refine idR ?_;refine ret1 rfl rfl rfl ?_)
    all_goals first
      | exact Le.of_eq rfl
      | (exfalso;rename_i hx;exact hx ho)
  · have hfl : (l.filter (hasB o)).length ≤ l.length:=List.length_filter_le _ _
    have hms : ((l.filter (hasB o)).mergeSort fun x y=>!(ltOf (cmpD o) y x)).length = (l.filter (hasB o)).length:=List.length_mergeSort _
    refine PC.of_body Tryz.func35 Tryz.ntmps35 rfl rfl rfl ?_
    repeat' first
 | (apply p1 (hd:=rfl);case hop=>first|(apply D_move;rfl)|(apply D_assign;rfl)|(apply D_pc (is_pc o);rfl;exact .same rfl .nil)|(apply D_load1;rfl)|(apply D_not;rfl)|(apply D_box;rfl;rfl)|exact D_mkfn rfl)
 | refine W_seq ?_
 | refine W_region ?_
 | (refine idC ?_;refine cs rfl (fun _=>?_) (fun _=>?_))
 | refine WL_nil ?_
 | refine tn ?_
 | refine tr ?_
 | refine W_skip ?_
 | refine W_ret ?_
 | (refine idR ?_;refine ret1 rfl rfl rfl ?_)
 | (refine m_call (d:=10) (cloneD_ac l h0 hl) rfl rfl rfl ?_;rintro _ _ ⟨sp,rfl,rfl⟩)
 | (refine m_call (d:=12) (deleteD_ac (l:=l) o rfl (by omega)) rfl rfl rfl ?_;rintro _ _ ⟨sp,rfl,rfl⟩)
 | (refine m_call (d:=15) (sortD_ac' (l:=l.filter (hasB o)) o ho rfl rfl (by omega)) rfl rfl rfl ?_;rintro _ _ ⟨rfl,rfl⟩)
 | (refine m_call (d:=17) (compactD_ac' (l:=(l.filter (hasB o)).mergeSort fun x y=>!(ltOf (cmpD o) y x)) hms rfl (by omega)) rfl rfl rfl ?_;rintro _ _ ⟨sp',rfl,rfl⟩;refine WL_frz 17 1 9 (els:=(compL ((l.filter (hasB o)).mergeSort fun x y=>!(ltOf (cmpD o) y x))).map dC) (sp:=sp') rfl rfl (by simp) dC_row ?_)
    · exfalso;rename_i hx;exact hx ho
    · rw [take_map_len];exact Le.of_eq rfl
noncomputable instance : DecidableEq Dat:=fun _ _=>Classical.propDecidable _
noncomputable instance : DecidableEq Val:=fun _ _=>Classical.propDecidable _
instance : Inhabited Val:=⟨val0⟩
instance : Inhabited Dat:=⟨dat0⟩
noncomputable instance : DecidableEq Dat:=fun _ _=>Classical.propDecidable _
end Go.Proofs
