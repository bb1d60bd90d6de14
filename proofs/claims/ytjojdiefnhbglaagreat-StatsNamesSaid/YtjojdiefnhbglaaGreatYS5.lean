/- Contracts of the document's stats: what is counted by attribute. -/
import Derived.Test.YtjojdiefnhbglaaGreatYF3
import Derived.Test.YtjojdiefnhbglaaGreatYS1
import Derived.Test.YtjojdiefnhbglaaGreatYD3
set_option linter.all false
namespace Go.Proofs
open Go.AL Go.Sort
attribute [local irreducible] Go.AL.W Go.AL.WL Go.AL.WD Go.AL.POp Go.AL.PPOp Go.AL.POpS Go.AL.PC Go.AL.AC Go.AL.YW Go.AL.Ret Go.AL.Le Go.AL.thn Go.AL.inBlk Go.AL.scp
theorem addN_snoc (l : List Dat) (d : Dat) : addN (l ++ [d]) = addN l + (if d.add = true then 1 else 0):=by
  unfold addN
  rw [List.filter_append,List.length_append,List.filter_cons]
  by_cases h : d.add = true <;> simp [h]
end Go.Proofs

namespace Go.Proofs
open Go.AL Go.Sort
attribute [local irreducible] Go.AL.W Go.AL.WL Go.AL.WD Go.AL.POp Go.AL.PPOp Go.AL.POpS Go.AL.PC Go.AL.AC Go.AL.YW Go.AL.Ret Go.AL.Le Go.AL.thn Go.AL.inBlk Go.AL.scp
theorem cmpD2_le {x y : Dat} (h : cmpD 2 x y < 0) : x.a ≤ y.a:=by
  have e : cmpD 2 x y = if cmpI x.a y.a = 0 then cmpPs [fst2 2 x,fst3 2 x,prtN x.t,prtN (if x.add then 0 else 1),prtN x.fr,prtN x.to] [fst2 2 y,fst3 2 y,prtN y.t,prtN (if y.add then 0 else 1),prtN y.fr,prtN y.to] else cmpI x.a y.a:=by
    unfold cmpD part7
    simp only [cmpPs]
    rfl
  rw [e] at h
  split at h
  · rename_i h0
    have:=zzI _ _ h0;omega
  · have:=ltI.1 h;omega
theorem dsort_perm (l : List Dat) : (dsortL 2 l).Perm (dsortL 1 l):=by
  have hn : ∀ o,1 ≤ o ∧ o ≤ 4 → (dsortL o l).Nodup:=fun o ho=>(dsort_rise ho l).imp fun {a b} h e=>by
    subst e
    have:=(wc_cmpD o).refl a
    omega
  refine (List.perm_ext_iff_of_nodup (hn 2 (by decide)) (hn 1 (by decide))).2 fun d=>?_
  rw [dsort_mem (by decide),dsort_mem (by decide)]
  exact and_congr_right fun _=>⟨fun _=>.inl (by decide),fun _=>.inl (by decide)⟩
theorem atts_eq (l : List Dat) (F : List Fac) (hF : F.length < 9223372036854775807) : attsP l F = attsR (dsortL 1 l) F:=by
  have hp:=dsort_perm l
  have hs : (dsortL 2 l).Pairwise (fun a b=>a.a ≤ b.a):=(dsort_rise (by decide) l).imp fun h=>cmpD2_le h
  unfold attsP attsR
  rw [grpA_all (attG F) _ _ (Nat.le_refl _) hs]
  have hk : insL cmpI ((dsortL 2 l).map Dat.a) = insL cmpI ((dsortL 1 l).map Dat.a):=insI_congr fun x=>(hp.map Dat.a).mem_iff
  rw [hk]
  refine List.map_congr_left fun x hx=>?_
  rw [insI_mem] at hx
  obtain ⟨d,hd,rfl⟩:=List.mem_map.1 hx
  have hf : ((dsortL 2 l).filter (ofA d.a)).Perm ((dsortL 1 l).filter (ofA d.a)):=hp.filter _
  have hm : ∀ y,y ∈ (dsortL 2 l).filter (ofA d.a) ↔ y ∈ (dsortL 1 l).filter (ofA d.a):=fun y=>hf.mem_iff
  have hd2 : d ∈ (dsortL 2 l).filter (ofA d.a):=(hm d).2 (List.mem_filter.2 ⟨hd,by unfold ofA;exact decide_eq_true rfl⟩)
  have hpos : 0 < ((dsortL 2 l).filter (ofA d.a)).length:=List.length_pos_of_mem hd2
  have hh : (((dsortL 2 l).filter (ofA d.a)).headD dat0).a = d.a:=by
    rw [headD_at _ _ hpos]
    have:=(List.mem_filter.1 (List.getElem_mem hpos)).2
    unfold ofA at this;exact of_decide_eq_true this
  have h1 : addN ((dsortL 2 l).filter (ofA d.a)) = addN ((dsortL 1 l).filter (ofA d.a)):=(hf.filter _).length_eq
  have h2 : insL cmpI (((dsortL 2 l).filter (ofA d.a)).map Dat.e) = insL cmpI (((dsortL 1 l).filter (ofA d.a)).map Dat.e):=insI_congr fun y=>(hf.map Dat.e).mem_iff
  have h3:=valS_congr hm
  have h4 : getM d.a ((F.map Fac.a).foldl cntM []) = ((F.filter (ofF d.a)).length : Int):=by
    rw [cntM_get d.a (F.map Fac.a) [] (Int.le_refl _) (by simp only [getM,List.length_map];omega)]
    simp only [getM,Int.zero_add]
    congr 1
    rw [List.filter_map,List.length_map];rfl
  unfold attG oneA attR
  rw [hh,h1,h2,h3,h4,hf.length_eq]
set_option maxHeartbeats 4000000 in
theorem great29_pc [GlobF Tryz.prog] (l : List Dat) (hl : l.length < 9223372036854775808) : PC Tryz.prog 25 [sl9 l] (.sc (.bool (dP (200 < l.length ∨ 4000 < grS 0 l)))):=by
  by_cases h : 200 < l.length
  · rw [← dP_T (.inl h)]
    have g : Value.bool (iLt 200 (l.length : Int)) = .bool true:=by rw [(iLt_t _ _).mpr (by omega)]
    refine PC.of_body Tryz.func25 Tryz.ntmps25 rfl rfl rfl ?_
    repeat' first
 | (apply p1 (hd:=rfl);case hop=>first|(apply D_move;rfl)|(apply D_assign;rfl)|exact D_sc (D_int rfl rfl rfl) g|(apply D_pickT;rfl;rfl)|(apply D_lenM;rfl))
 | refine W_seq ?_
 | refine W_region ?_
 | refine WL_nil ?_
 | (refine idG ?_;refine g0f rfl rfl rfl ?_)
 | refine tn ?_
 | refine W_ret ?_
 | (refine idR ?_;refine ret1 rfl rfl rfl ?_)
 | (refine Le.bool ?_)
    all_goals first|rfl|contradiction|skip
  · have g : Value.bool (iLt 200 (l.length : Int)) = .bool false:=by rw [(iLt_f _ _).mpr (by omega)]
    have hg:=great_pc l (by omega)
    by_cases h2 : 4000 < grS 0 l
    · rw [← dP_T (.inr h2)]
      rw [if_pos h2] at hg
      have g2 : iLt 0 1 = true:=(iLt_t _ _).mpr (by decide)
      refine PC.of_body Tryz.func25 Tryz.ntmps25 rfl rfl rfl ?_
      repeat' first
 | (apply p1 (hd:=rfl);case hop=>first|(apply D_move;rfl)|(apply D_assign;rfl)|exact D_sc (D_int rfl rfl rfl) g|(apply D_pc hg;rfl;exact .same rfl .nil)|(apply D_pickF;rfl;rfl)|(apply D_int;rfl;rfl;rfl)|(apply D_lenM;rfl))
 | refine W_seq ?_
 | refine W_region ?_
 | refine WL_nil ?_
 | (refine idG ?_;refine gr rfl rfl ?_)
 | refine tn ?_
 | refine W_ret ?_
 | (refine idR ?_;refine ret1 rfl rfl rfl ?_)
 | (refine Le.bool ?_)
      all_goals first|rfl|contradiction|exact g2|skip
    · rw [← dP_F (fun e=>e.elim h h2)]
      rw [if_neg h2] at hg
      have g2 : iLt 0 0 = false:=(iLt_f _ _).mpr (by decide)
      refine PC.of_body Tryz.func25 Tryz.ntmps25 rfl rfl rfl ?_
      repeat' first
 | (apply p1 (hd:=rfl);case hop=>first|(apply D_move;rfl)|(apply D_assign;rfl)|exact D_sc (D_int rfl rfl rfl) g|(apply D_pc hg;rfl;exact .same rfl .nil)|(apply D_pickF;rfl;rfl)|(apply D_int;rfl;rfl;rfl)|(apply D_lenM;rfl))
 | refine W_seq ?_
 | refine W_region ?_
 | refine WL_nil ?_
 | (refine idG ?_;refine gr rfl rfl ?_)
 | refine tn ?_
 | refine W_ret ?_
 | (refine idR ?_;refine ret1 rfl rfl rfl ?_)
 | (refine Le.bool ?_)
      all_goals first|rfl|contradiction|exact g2|skip
theorem atts_len (l : List Dat) (F : List Fac) : (attsR (dsortL 1 l) F).length ≤ l.length:=by
  unfold attsR
  rw [List.length_map]
  have:=insL_len cmpI ((dsortL 1 l).map Dat.a) _ (Nat.le_refl _)
  rw [List.take_length,List.length_map] at this
  exact Nat.le_trans this (dsortL_len 1 l)
end Go.Proofs

namespace Go.Proofs
open Go.AL Go.Sort
attribute [local irreducible] Go.AL.W Go.AL.WL Go.AL.WD Go.AL.POp Go.AL.PPOp Go.AL.POpS Go.AL.PC Go.AL.AC Go.AL.YW Go.AL.Ret Go.AL.Le Go.AL.thn Go.AL.inBlk Go.AL.scp
instance : Inhabited Pt:=⟨⟨0,0⟩⟩
def encP (p : Pt) : List Value:=[.int .i64 p.at_,.int .i64 p.m]
theorem ptC_enc (p : Pt) : ptC p = (encP p).map .sc:=rfl
abbrev cmpP (a b : Pt) : Int:=cmpI a.at_ b.at_
theorem ltP (a b : Pt) : ltOf cmpP a b = decide (a.at_ < b.at_):=by
  unfold ltOf;show decide (cmpI a.at_ b.at_ < 0) = _;unfold cmpI
  by_cases h : a.at_ < b.at_
  · simp [h]
  · by_cases h2 : b.at_ < a.at_ <;> simp [h,h2]
theorem swoP : SWO (ltOf cmpP):=⟨fun x=>by rw [ltP];simp,fun x y z h1 h2=>by rw [ltP] at *;simp at *;omega,fun x y z h1 h2=>by rw [ltP] at *;simp at *;omega⟩
set_option maxHeartbeats 4000000 in
theorem curve1_pc [GlobF Tryz.prog] (a b : Pt) : PC Tryz.prog 69 [.ag (ptC a),.ag (ptC b)] (.sc (.int .i64 (cmpP a b))):=by
  refine PC.of_body Tryz.func69 Tryz.ntmps69 rfl rfl rfl ?_
  repeat' first
 | (apply p1 (hd:=rfl);case hop=>first|(apply D_assign;rfl)|(apply D_pc (cmpInt64_pc a.at_ b.at_);rfl;exact .same rfl (.same rfl .nil))|(apply D_load1;rfl)|(apply D_fld;rfl)|(apply D_box;rfl;rfl))
 | refine W_seq ?_
 | refine W_region ?_
 | refine WL_nil ?_
 | refine tn ?_
 | refine W_ret ?_
 | (refine idR ?_;refine ret1 rfl rfl rfl ?_)
 | (refine Le.int ?_)
  all_goals rfl
theorem sortT_ac [GlobF Tryz.prog] {h : List AObj} {r : Nat} {l : List Pt} {sp : List AV} (hr : h[r]? = some (.cells ((l.map ptC).flatten ++ sp))) (hne : 0 < l.length) (hl : l.length < 4611686018427387904) :
    AC Tryz.prog 68 [.mr r 0 l.length,.sc (.func (.func 69) #[] #[])] h (fun v h'=>v = .tu [] ∧ ∃ ms : List Pt,ms.Perm l ∧ ms.Pairwise (fun x y=>ltOf cmpP y x = false) ∧ h' = h.set r (.cells ((ms.map ptC).flatten ++ sp))) :=
  sortP_ac Tryz.laysSP Tryz.isAgg80 Tryz.sizeOf80 encP ptC ptC_enc (fun _=>rfl) (fun x v hv=>by simp [encP] at hv;rcases hv with rfl|rfl <;> rfl) cmpP swoP 69 [] _
    (fun G v hv=>⟨[],by rw [conc_sc hv],.nil _⟩) (fun x y=>curve1_pc x y) hr hne hl
theorem sortT0_pc [GlobF Tryz.prog] : PC Tryz.prog 68 [.sl none 2 [],.sc (.func (.func 69) #[] #[])] (.tu []):=sort_none_pc Tryz.laysSP 2 _
theorem ptC_row {l : List Pt} : ∀ e,e ∈ l.map ptC → e.length = 2:=fun e he=>by
  obtain ⟨p,_,rfl⟩:=List.mem_map.1 he;rfl
theorem snocG {α : Type} (l : List α) : l = [] ∨ ∃ m x,l = m ++ [x]:=by
  cases h : l.reverse with
  | nil=>exact .inl (by simpa using h)
  | cons x m=>exact .inr ⟨m.reverse,x,by have:=congrArg List.reverse h;simpa using this⟩
set_option maxHeartbeats 4000000 in
theorem last_pc [GlobF Tryz.prog] (o : List Pt) (hl : o.length < 4611686018427387904) : PC Tryz.prog 71 [slP o] (.sc (.int .i64 (lastM o))):=by
  rcases snocG o with rfl | ⟨m,p,rfl⟩
  · refine PC.of_body Tryz.func71 Tryz.ntmps71 rfl rfl rfl ?_
    repeat' first
 | (apply p1 (hd:=rfl);case hop=>first|(apply D_move;rfl)|(apply D_assign;rfl)|(apply D_int;rfl;rfl;rfl)|(apply D_lenM;rfl))
 | refine W_seq ?_
 | refine W_region ?_
 | (refine idC ?_;refine cs rfl (fun _=>?_) (fun _=>?_))
 | refine WL_nil ?_
 | refine tn ?_
 | refine tr ?_
 | refine W_skip ?_
 | refine W_ret ?_
 | (refine idR ?_;refine ret1 rfl rfl rfl ?_)
 | (refine Le.int ?_)
    all_goals first|rfl|contradiction|(exfalso;simp at *;done)|skip
  · rw [lastM_snoc]
    have hlo : (m ++ [p]).length = m.length + 1:=by simp
    rw [hlo] at hl
    have hsub : IntKind.i64.wrap (((m.length + 1 : Nat) : Int) - 1) = (m.length : Int):=by rw [w64 _ (by omega) (by omega)];omega
    have hz : Value.bool (iEq ((m ++ [p]).length : Int) 0) = .bool false:=by rw [(iEq_f _ _).mpr (by rw [hlo];omega)]
    have hsb : Value.int .i64 (IntKind.i64.wrap (((m ++ [p]).length : Int) - 1)) = .int .i64 (m.length : Int):=by rw [hlo,hsub]
    have hget : (m ++ [p])[m.length]? = some p:=by simp
    refine PC.of_body Tryz.func71 Tryz.ntmps71 rfl rfl rfl ?_
    repeat' first
 | (apply p1 (hd:=rfl);case hop=>first|(apply D_move;rfl)|(apply D_assign;rfl)|exact D_sc (D_int rfl rfl rfl) hz|exact D_sc (D_int rfl rfl rfl) hsb|(apply D_load1;rfl)|(apply D_fld;rfl)|(apply D_lenM;rfl)|(apply D_idxAn;rfl;rfl;(first|omega|(simp;done))))
 | refine W_seq ?_
 | refine W_region ?_
 | (refine idC ?_;refine c0 rfl ?_)
 | refine WL_nil ?_
 | refine tn ?_
 | refine W_skip ?_
 | refine W_ret ?_
 | (refine idR ?_;refine ret1 rfl rfl rfl ?_)
 | (refine Le.int ?_)
    all_goals first
      | contradiction
      | (exfalso;omega)
      | (simp;done)
      | skip
end Go.Proofs

namespace Go.Proofs
open Go.AL Go.Sort
attribute [local irreducible] Go.AL.W Go.AL.WL Go.AL.WD Go.AL.POp Go.AL.PPOp Go.AL.POpS Go.AL.PC Go.AL.AC Go.AL.YW Go.AL.Ret Go.AL.Le Go.AL.thn Go.AL.inBlk Go.AL.scp
theorem rentE {rg rg' : List (Nat × AV)} {h : List AObj} {q n k e : Nat} (hq : h[q]? = some (.tail n k e)) (hr : RenL [q] rg rg') : Ren ⟨[],0⟩ [q] rg h rg' [.tail n k e] :=
  ⟨by simp,fun r hr=>absurd hr (Nat.not_lt_zero r),fun r hr=>(by cases hr),hr,⟨⟨_,hq,.tail _ _ _⟩,trivial⟩⟩
theorem turnsL_take (l : List Fac) (i : Nat) (h : i < l.length) : turnsL (l.take (i + 1)) = turnsL (l.take i) ++ l[i].sp.flatMap turnS:=by
  unfold turnsL
  rw [List.take_succ_eq_append_getElem h,List.flatMap_append];simp
theorem turnS_take (sp : List Sp) (k : Nat) (h : k < sp.length) : (sp.take (k + 1)).flatMap turnS = (sp.take k).flatMap turnS ++ turnS sp[k]:=by
  rw [List.take_succ_eq_append_getElem h,List.flatMap_append];simp
theorem turnS_len (sp : List Sp) : (sp.flatMap turnS).length ≤ 2 * sp.length:=by
  induction sp with
  | nil=>simp
  | cons s l ih =>
    rw [List.flatMap_cons,List.length_append,List.length_cons]
    have : (turnS s).length ≤ 2:=by unfold turnS;split <;> simp
    omega
theorem turnsL_len (l : List Fac) (h : ∀ f,f ∈ l → f.sp.length ≤ 750) : (turnsL l).length ≤ 1500 * l.length:=by
  induction l with
  | nil=>simp [turnsL]
  | cons f l ih =>
    have h1:=h f List.mem_cons_self
    have h2:=ih fun g hg=>h g (List.mem_cons_of_mem _ hg)
    have h3:=turnS_len f.sp
    unfold turnsL at *
    rw [List.flatMap_cons,List.length_append,List.length_cons];omega
theorem turns_m {l : List Fac} : ∀ p,p ∈ turnsL l → -1 ≤ p.m ∧ p.m ≤ 1:=fun p hp=>by
  obtain ⟨f,_,h2⟩:=List.mem_flatMap.1 hp
  obtain ⟨s,_,h3⟩:=List.mem_flatMap.1 h2
  unfold turnS at h3
  rcases List.mem_cons.1 h3 with e|e
  · rw [e];exact ⟨(by decide : (-1 : Int) ≤ 1),Int.le_refl _⟩
  · split at e
    · simp at e
    · rw [List.mem_singleton.1 e];exact ⟨Int.le_refl _,(by decide : (-1 : Int) ≤ 1)⟩
theorem curveL_snoc (S : Int → Int) (x : List Int) (a : Int) : curveL S (x ++ [a]) = pushP S (curveL S x) a:=by
  unfold curveL;rw [List.foldl_append];rfl
theorem curveL_len (S : Int → Int) (x : List Int) : (curveL S x).length ≤ x.length:=by
  have key : ∀ (x : List Int) (o : List Pt),(x.foldl (pushP S) o).length ≤ o.length + x.length:=by
    intro x
    induction x with
    | nil=>intro o;simp
    | cons a m ih =>
      intro o
      rw [List.foldl_cons]
      have h1:=ih (pushP S o a)
      have h2:=pushP_len S o a
      simp only [List.length_cons];omega
  have:=key x []
  simpa [curveL] using this
theorem doneL_len (K : List Int) : ∀ i,(doneL K i).length ≤ i
  | 0=>Nat.le_refl _
  | i + 1=>by
    have:=doneL_len K i
    simp only [doneL];split
    · omega
    · simp;omega
def curP (ms : List Pt) (i : Nat) : List Pt:=curveL (fun a=>sumT a ms) (doneL (ms.map Pt.at_) i)
theorem curP_skip {ms : List Pt} {i : Nat} (h : i + 1 < ms.length) (he : ms[i + 1].at_ = (ms[i]'(by omega)).at_) : curP ms (i + 1) = curP ms i:=by
  unfold curP
  simp only [doneL]
  rw [if_pos]
  rw [List.getElem?_map,List.getElem?_map,List.getElem?_eq_getElem h,List.getElem?_eq_getElem (by omega),Option.map_some,Option.map_some,he]
theorem curP_step {ms : List Pt} (hs : ms.Pairwise (fun a b=>a.at_ ≤ b.at_)) {i : Nat} (h : i < ms.length) (hn : ∀ h2 : i + 1 < ms.length,ms[i + 1].at_ ≠ ms[i].at_) : curP ms (i + 1) = if sumM (ms.take (i + 1)) = lastM (curP ms i) then curP ms i else curP ms i ++ [⟨ms[i].at_,sumM (ms.take (i + 1))⟩]:=by
  have e : doneL (ms.map Pt.at_) (i + 1) = doneL (ms.map Pt.at_) i ++ [ms[i].at_]:=by
    simp only [doneL]
    rw [if_neg]
    · rw [List.getElem?_map,List.getElem?_eq_getElem h];rfl
    · rw [List.getElem?_map,List.getElem?_map,List.getElem?_eq_getElem h,Option.map_some]
      by_cases h2 : i + 1 < ms.length
      · rw [List.getElem?_eq_getElem h2,Option.map_some]
        exact fun e=>hn h2 (Option.some.inj e)
      · rw [List.getElem?_eq_none (by omega)];intro e;cases e
  unfold curP
  rw [e,curveL_snoc]
  unfold pushP
  simp only [sumM_T hs h hn]
theorem curP_len (ms : List Pt) (i : Nat) : (curP ms i).length ≤ i:=Nat.le_trans (curveL_len _ _) (doneL_len _ _)
set_option maxHeartbeats 32000000 in
theorem curve_pc [GlobF Tryz.prog] (l : List Fac) (hl : l.length ≤ 150) (hb : bndF l) (hsp : ∀ f,f ∈ l → f.sp.length ≤ 750) (hr : ∀ f,f ∈ l → ∀ s,s ∈ f.sp → s.t ≤ tMx) : PC Tryz.prog 30 [sl6 l] (.tu [slP (if dP (allF l) then curveR l (insL cmpI (atsL l)) else []),.sc (.int .i64 (if dP (allF l) then 0 else 60))]):=by
  have hc:=fcheck_pc l (by omega) hb
  by_cases ha : allF l
  rotate_left 1
  · rw [← dP_F ha,if_neg (by decide)] at hc
    rw [← dP_F ha]
    refine PC.of_body Tryz.func30 Tryz.ntmps30 rfl rfl rfl ?_
    repeat' first
 | (apply p1 (hd:=rfl);case hop=>first|(apply D_move;rfl)|(apply D_assign;rfl)|(apply D_pc hc;rfl;exact .same rfl .nil)|(apply D_int;rfl;rfl;rfl)|(apply D_lenM;rfl))
 | refine W_seq ?_
 | refine W_region ?_
 | (refine idC ?_;refine cs rfl (fun _=>?_) (fun _=>?_))
 | refine WL_nil ?_
 | refine tn ?_
 | refine tr ?_
 | refine W_skip ?_
 | refine W_block ?_
 | refine W_ret ?_
 | refine W_scope ?_
 | refine sr ?_
 | (refine idR ?_;refine ret2 rfl rfl rfl rfl ?_ ?_)
 | (refine Le.int ?_)
    all_goals first|contradiction|exact Le.nil rfl|rfl|(exfalso;omega)|skip
  rw [← dP_T ha,if_pos rfl] at hc
  rw [← dP_T ha,if_pos rfl,if_pos rfl]
  have hn0 : Value.bool (bNot (iEq 0 0)) = .bool false:=by rw [(iEq_t _ _).mpr rfl];simp [bNot]
  have htl:=turnsL_len l hsp
  have hpre : ∀ i,i ≤ l.length → (turnsL (l.take i)).length ≤ 1500 * i:=fun i hi=>by
    have:=turnsL_len (l.take i) fun f hf=>hsp f (List.mem_of_mem_take hf)
    rw [List.length_take] at this;omega
  refine PC.of_body Tryz.func30 Tryz.ntmps30 rfl rfl rfl ?_
  repeat' first
 | (apply p1 (hd:=rfl);case hop=>first|(apply D_move;rfl)|(apply D_assign;rfl)|(apply D_pc hc;rfl;exact .same rfl .nil)|exact D_sc (D_int rfl rfl rfl) hn0|(apply D_lenM;rfl))
 | refine W_seq ?_
 | refine W_region ?_
 | (refine idC ?_;refine c0 rfl ?_)
 | refine WL_nil ?_
 | refine tn ?_
 | refine W_skip ?_
 | refine W_block ?_
 | (refine W_scope ?_)
  all_goals first|contradiction|(exfalso;omega)|skip
  refine W_adoptG 4 2 80 rfl ?_
  refine W_loopR (X:=Nat) (fun i=>[(4,rowA 0 (turnsL (l.take i)).length),(16,sl6 l),(17,.sc (.int .i64 (l.length : Int))),(18,.sc (.int .i64 (i : Int)))]) (fun i=>[.row 2 80 ((turnsL (l.take i)).map ptC)])
    (fun i=>i ≤ l.length) (fun i=>l.length - i) 0 (Nat.zero_le _) ⟨rfl,rfl,rfl,rfl,trivial⟩ rfl ?_
  intro i hi
  have hpi:=hpre i hi
  by_cases hil : i < l.length
  · have hsn:=turnsL_take l i hil
    have hsl:=hsp _ (List.getElem_mem hil)
    generalize turnsL (l.take i) = E at *
    repeat' first
 | (apply p1 (hd:=rfl);case hop=>first|(apply D_move;rfl)|(apply D_load1;rfl)|(apply D_fld;rfl)|(apply D_int;rfl;rfl;rfl)|(apply D_lenM;rfl)|(apply D_loadW;rfl;rfl)|(apply D_idxAn;rfl;rfl;(first|omega|(simp;done))))
 | refine W_seq ?_
 | refine W_region ?_
 | (refine idC ?_;refine cs rfl (fun _=>?_) (fun _=>?_))
 | refine WL_nil ?_
 | refine tn ?_
 | refine te ?_
 | (refine idB ?_;refine bh rfl ?_)
 | refine W_skip ?_
 | refine W_block ?_
 | refine W_exit ?_
 | (refine idA ?_;refine m_var rfl rfl rfl rfl rfl rfl rfl ?_)
    all_goals first
      | contradiction
      | (exfalso;omega)
      | skip
    refine W_loopR (X:=Nat) (fun k=>[(4,rowA 0 (E ++ ((l[i]'hil).sp.take k).flatMap turnS).length),(16,sl6 l),(17,.sc (.int .i64 (l.length : Int))),(18,.sc (.int .i64 (i : Int))),(23,sl2 (l[i]'hil).sp),(24,.sc (.int .i64 ((l[i]'hil).sp.length : Int))),(25,.sc (.int .i64 (k : Int)))]) (fun k=>[.row 2 80 ((E ++ ((l[i]'hil).sp.take k).flatMap turnS).map ptC)])
      (fun k=>k ≤ (l[i]'hil).sp.length) (fun k=>(l[i]'hil).sp.length - k) 0 (Nat.zero_le _) ⟨by simp [lookO,look],rfl,rfl,rfl,rfl,rfl,rfl,trivial⟩ (by simp) ?_
    intro k hk
    have hlen : (E ++ ((l[i]'hil).sp.take k).flatMap turnS).length ≤ E.length + 2 * k:=by
      have:=turnS_len ((l[i]'hil).sp.take k)
      rw [List.length_take] at this
      rw [List.length_append];omega
    by_cases hkl : k < (l[i]'hil).sp.length
    · have hsk : E ++ ((l[i]'hil).sp.take (k + 1)).flatMap turnS = (E ++ ((l[i]'hil).sp.take k).flatMap turnS) ++ turnS ((l[i]'hil).sp[k]'hkl):=by rw [turnS_take _ k hkl,List.append_assoc]
      generalize E ++ ((l[i]'hil).sp.take k).flatMap turnS = G at *
      by_cases ht : ((l[i]'hil).sp[k]'hkl).t = tMx
      · rw [show turnS ((l[i]'hil).sp[k]'hkl) = [⟨((l[i]'hil).sp[k]'hkl).f,1⟩] by unfold turnS;rw [if_pos ht]] at hsk
        repeat' first
 | (refine m_appG (d:=34) (els:=G.map ptC) (els':=[ptC ⟨((l[i]'hil).sp[k]'hkl).f,1⟩]) rfl rfl rfl (by simp) (by simp) rfl (by simp;omega) (by simp;omega) rfl ?_)
 | (apply p1 (hd:=rfl);case hop=>first|(apply D_move;rfl)|(apply D_assign;rfl)|(apply D_load1;rfl)|(apply D_fld;rfl)|(apply D_int;rfl;rfl;rfl)|(apply D_loadW;rfl;rfl)|(apply D_idxAn;rfl;rfl;(first|omega|(simp;done)))|(apply D_lit;rfl;rfl;rfl;rfl)|exact D_build rfl)
 | refine W_seq ?_
 | refine W_region ?_
 | (refine idC ?_;refine cs rfl (fun _=>?_) (fun _=>?_))
 | refine WL_nil ?_
 | refine tn ?_
 | refine bn ?_
 | refine te ?_
 | (refine idB ?_;refine bh rfl ?_)
 | refine W_skip ?_
 | refine W_block ?_
 | refine W_exit ?_
 | (refine idA ?_;refine m_var rfl rfl rfl rfl rfl rfl rfl ?_)
        all_goals first
          | (exfalso;omega)
          | contradiction
          | (refine ⟨rfl,k + 1,by omega,by omega,[1],ren1 ?_ ⟨⟨_,rfl,?_⟩,⟨_,rfl,.pur⟩,⟨_,rfl,.pur⟩,⟨_,rfl,.pur⟩,⟨_,rfl,.pur⟩,⟨_,rfl,.pur⟩,⟨_,rfl,?_⟩,trivial⟩⟩
             · rw [hsk,List.map_append];rfl
             · rw [hsk];exact mvRow rfl (by simp)
             · rw [wsucc k (by omega)];exact .pur)
          | skip
      · rw [show turnS ((l[i]'hil).sp[k]'hkl) = [⟨((l[i]'hil).sp[k]'hkl).f,1⟩,⟨((l[i]'hil).sp[k]'hkl).t,-1⟩] by unfold turnS;rw [if_neg ht]] at hsk
        repeat' first
 | (refine m_appG (d:=34) (els:=G.map ptC) (els':=[ptC ⟨((l[i]'hil).sp[k]'hkl).f,1⟩]) rfl rfl rfl (by simp) (by simp) rfl (by simp;omega) (by simp;omega) rfl ?_)
 | (refine m_appG (d:=43) (els:=G.map ptC ++ [ptC ⟨((l[i]'hil).sp[k]'hkl).f,1⟩]) (els':=[ptC ⟨((l[i]'hil).sp[k]'hkl).t,-1⟩]) rfl rfl rfl (by simp) (by simp) rfl (by simp;omega) (by simp;omega) rfl ?_)
 | (apply p1 (hd:=rfl);case hop=>first|(apply D_move;rfl)|(apply D_assign;rfl)|(apply D_load1;rfl)|(apply D_fld;rfl)|(apply D_int;rfl;rfl;rfl)|(apply D_loadW;rfl;rfl)|(apply D_idxAn;rfl;rfl;(first|omega|(simp;done)))|(apply D_lit;rfl;rfl;rfl;rfl)|exact D_build rfl)
 | refine W_seq ?_
 | refine W_region ?_
 | (refine idC ?_;refine cs rfl (fun _=>?_) (fun _=>?_))
 | refine WL_nil ?_
 | refine tn ?_
 | refine bn ?_
 | refine te ?_
 | (refine idB ?_;refine bh rfl ?_)
 | refine W_skip ?_
 | refine W_block ?_
 | refine W_exit ?_
 | (refine idA ?_;refine m_var rfl rfl rfl rfl rfl rfl rfl ?_)
        all_goals first
          | (exfalso;omega)
          | contradiction
          | (refine ⟨rfl,k + 1,by omega,by omega,[2],ren1 ?_ ⟨⟨_,rfl,?_⟩,⟨_,rfl,.pur⟩,⟨_,rfl,.pur⟩,⟨_,rfl,.pur⟩,⟨_,rfl,.pur⟩,⟨_,rfl,.pur⟩,⟨_,rfl,?_⟩,trivial⟩⟩
             · rw [hsk,show (G ++ [(⟨((l[i]'hil).sp[k]'hkl).f,1⟩ : Pt),⟨((l[i]'hil).sp[k]'hkl).t,-1⟩]).map ptC = G.map ptC ++ [ptC ⟨((l[i]'hil).sp[k]'hkl).f,1⟩] ++ [ptC ⟨((l[i]'hil).sp[k]'hkl).t,-1⟩] by simp];rfl
             · rw [hsk];exact mvRow rfl (by simp)
             · rw [wsucc k (by omega)];exact .pur)
          | skip
    · have e : k = (l[i]'hil).sp.length:=by omega
      subst e
      rw [List.take_length] at *
      rw [← hsn] at *
      repeat' first
 | (apply p1 (hd:=rfl);case hop=>first|(apply D_move;rfl)|(apply D_load1;rfl)|(apply D_fld;rfl)|(apply D_int;rfl;rfl;rfl)|(apply D_loadW;rfl;rfl)|(apply D_idxAn;rfl;rfl;(first|omega|(simp;done)))|(apply D_lit;rfl;rfl;rfl;rfl)|exact D_build rfl)
 | refine W_seq ?_
 | refine W_region ?_
 | (refine idC ?_;refine cs rfl (fun _=>?_) (fun _=>?_))
 | refine WL_nil ?_
 | refine tn ?_
 | refine bn ?_
 | refine te ?_
 | (refine idB ?_;refine bh rfl ?_)
 | refine W_skip ?_
 | refine W_block ?_
 | refine W_exit ?_
 | (refine idA ?_;refine m_var rfl rfl rfl rfl rfl rfl rfl ?_)
      all_goals first
        | (exfalso;omega)
        | exact ⟨rfl,i + 1,by omega,by omega,[0],ren1 rfl ⟨⟨_,rfl,mvRow rfl rfl⟩,⟨_,rfl,.pur⟩,⟨_,rfl,.pur⟩,⟨_,rfl,by rw [wsucc i (by omega)];exact .pur⟩,trivial⟩⟩
        | skip
  have e : i = l.length:=by omega
  subst e
  rw [List.take_length] at *
  have hmay : ∀ f,f ∈ l → SetP f.sp ∧ ∀ s,s ∈ f.sp → s.t ≤ tMx:=fun f hf=>⟨(may_of ha hf).2.2,hr f hf⟩
  have hri:=insI_rise (atsL l)
  have hmi:=insI_mem (atsL l)
  by_cases h0 : (turnsL l).length = 0
  · have hnil : turnsL l = []:=List.length_eq_zero_iff.1 h0
    have hcu : curveR l (insL cmpI (atsL l)) = []:=by
      have h1:=curve_ats (ms:=[]) (as_:=insL cmpI (atsL l)) (by rw [hnil]) List.Pairwise.nil hmay hri hmi
      unfold curveR
      rw [curve_skip,← h1];rfl
    rw [hcu,hnil]
    repeat' first
 | (apply p1 (hd:=rfl);case hop=>first|(apply D_move;rfl)|(apply D_assign;rfl)|(apply D_pc sortT0_pc;rfl;exact .cons rfl Le.row0 (.same rfl .nil))|(apply D_load1;rfl)|(apply D_fld;rfl)|(apply D_int;rfl;rfl;rfl)|(apply D_lenM;rfl)|(apply D_len_sl;rfl)|(apply D_loadW;rfl;rfl)|(apply D_idxAn;rfl;rfl;(first|omega|(simp;done))))
 | refine W_seq ?_
 | refine W_region ?_
 | (refine idC ?_;refine cs rfl (fun _=>?_) (fun _=>?_))
 | refine WL_nil ?_
 | refine tn ?_
 | refine te ?_
 | (refine idB ?_;refine bh rfl ?_)
 | refine W_skip ?_
 | refine W_block ?_
 | refine W_exit ?_
 | refine W_label ?_
 | (refine idA ?_;refine m_var rfl rfl rfl rfl rfl rfl rfl ?_)
    all_goals first
      | contradiction
      | (exfalso;omega)
      | skip
    refine W_loopL (X:=Nat) (fun _=>[(9,.sc (.slice none 0 0)),(49,.sc (.int .i64 0)),(50,.sc (.int .i64 0))]) (fun _=>[.row 2 80 []])
      (fun _=>True) (fun _=>0) 0 trivial ⟨rfl,rfl,rfl,trivial⟩ rfl ?_
    intro j _
    repeat' first
 | (apply p1 (hd:=rfl);case hop=>first|(apply D_move;rfl)|(apply D_assign;rfl)|(apply D_int;rfl;rfl;rfl))
 | refine W_seq ?_
 | refine W_region ?_
 | (refine idC ?_;refine cs rfl (fun _=>?_) (fun _=>?_))
 | refine WL_nil ?_
 | refine tn ?_
 | refine te ?_
 | (refine idB ?_;refine bh rfl ?_)
 | refine W_skip ?_
 | refine W_block ?_
 | refine W_exit ?_
 | refine W_ret ?_
 | refine sr ?_
 | (refine idR ?_;refine ret2 rfl rfl rfl rfl ?_ ?_)
 | (refine Le.int ?_)
    all_goals first
      | contradiction
      | (exfalso;omega)
      | exact Le.nil rfl
      | rfl
      | skip
  · refine W_rowM 4 0 (els:=(turnsL l).map ptC) rfl rfl (by simp) (by omega) fun sp=>?_
    have hso:=sortT_ac (h:=[.cells (((turnsL l).map ptC).flatten ++ sp)]) (r:=0) (l:=turnsL l) (sp:=sp) rfl (by omega) (by omega)
    repeat' first
 | (apply p1 (hd:=rfl);case hop=>first|(apply D_move;rfl)|(apply D_assign;rfl)|(apply D_load1;rfl)|(apply D_fld;rfl)|(apply D_int;rfl;rfl;rfl)|(apply D_lenM;rfl)|(apply D_loadW;rfl;rfl)|(apply D_idxAn;rfl;rfl;(first|omega|(simp;done))))
 | refine W_seq ?_
 | refine W_region ?_
 | (refine idC ?_;refine cs rfl (fun _=>?_) (fun _=>?_))
 | refine WL_nil ?_
 | refine tn ?_
 | refine te ?_
 | (refine idB ?_;refine bh rfl ?_)
 | refine W_skip ?_
 | refine W_block ?_
 | refine W_exit ?_
 | refine W_label ?_
 | (refine idA ?_;refine m_var rfl rfl rfl rfl rfl rfl rfl ?_)
 | (refine m_call (d:=47) hso rfl rfl rfl ?_;rintro _ _ ⟨rfl,ms,hperm,hpw,rfl⟩;refine WL_frz 4 0 2 (els:=ms.map ptC) (sp:=sp) rfl rfl (by rw [List.length_map,hperm.length_eq];exact Nat.le_refl _) ptC_row ?_;rw [List.take_of_length_le (by rw [List.length_map,hperm.length_eq];exact Nat.le_refl _)])
    all_goals first
      | contradiction
      | (exfalso;omega)
      | skip
    have hml:=hperm.length_eq
    have hs : ms.Pairwise (fun a b=>a.at_ ≤ b.at_):=hpw.imp fun {a b} h=>by rw [ltP] at h;simpa using h
    have hmm : ∀ p,p ∈ ms → -1 ≤ p.m ∧ p.m ≤ 1:=fun p hp=>turns_m p ((hperm.mem_iff (a:=p)).1 hp)
    have hfin : curP ms ms.length = curveR l (insL cmpI (atsL l)):=by
      unfold curP curveR
      rw [curve_skip,← curve_ats hperm hs hmay hri hmi]
      refine curve_eq fun a ha2=>?_
      rw [sumT_perm a hperm]
      refine sumT_all ?_ l fun f hf=>(hmay f hf).1
      have hK : (ms.map Pt.at_).Pairwise (fun a b=>a ≤ b):=List.pairwise_map.2 hs
      have h1:=((done_end hK).2 a).1 (by rw [List.length_map];exact ha2)
      have h2 : a ∈ (insL cmpI (atsL l)).filter (fun a=>decide (a ≠ tMx)):=by rw [← curve_ats hperm hs hmay hri hmi];exact ha2
      have h3:=(List.mem_filter.1 h2).2
      have h4 : a ≠ tMx:=of_decide_eq_true h3
      have h5 : a ≤ tMx:=by
        have h6:=(hmi a).1 (List.mem_filter.1 h2).1
        obtain ⟨f,hf,h7⟩:=List.mem_flatMap.1 h6
        obtain ⟨s,hs1,h8⟩:=List.mem_flatMap.1 h7
        have hne:=(hmay f hf).1.1 s hs1
        have hle:=(hmay f hf).2 s hs1
        simp only [atsS,List.mem_cons,List.not_mem_nil,or_false] at h8
        rcases h8 with rfl|rfl <;> omega
      omega
    rw [← hfin]
    refine W_adopt 9 2 80 rfl ?_
    refine W_ren (rg':=[(4,slP ms),(9,.sl (some 0) 2 (([] : List Pt).map ptC)),(10,.sc (.int .i64 0)),(48,slP ms),(49,.sc (.int .i64 (ms.length : Int))),(50,.sc (.int .i64 0))]) (h':=[.tail 0 2 80]) [1] (rentE rfl ⟨⟨_,rfl,.pur⟩,⟨_,rfl,.sl rfl⟩,⟨_,rfl,.pur⟩,⟨_,rfl,.pur⟩,⟨_,rfl,?_⟩,⟨_,rfl,.pur⟩,trivial⟩) ?_
    · exact .pur
    refine W_loopR (X:=Nat) (fun j=>[(4,slP ms),(9,.sl (some 0) 2 ((curP ms j).map ptC)),(10,.sc (.int .i64 (sumM (ms.take j)))),(48,slP ms),(49,.sc (.int .i64 (ms.length : Int))),(50,.sc (.int .i64 (j : Int)))]) (fun j=>[.tail (curP ms j).length 2 80])
      (fun j=>j ≤ ms.length) (fun j=>ms.length - j) 0 (Nat.zero_le _) ⟨rfl,rfl,rfl,rfl,rfl,rfl,trivial⟩ rfl ?_
    intro j hj
    have hol:=curP_len ms j
    by_cases hjl : j < ms.length
    · have hst:=sumM_take hjl
      have hab:=sumM_abs (ms:=ms.take j) fun p hp=>hmm p (List.mem_of_mem_take hp)
      rw [List.length_take] at hab
      have hmj:=hmm _ (List.getElem_mem hjl)
      have hw : Value.int .i64 (IntKind.i64.wrap (sumM (ms.take j) + (ms[j]'hjl).m)) = .int .i64 (sumM (ms.take (j + 1))):=by rw [w64 _ (by omega) (by omega),hst]
      by_cases hnx : ∃ h : j + 1 < ms.length,ms[j + 1].at_ = (ms[j]'hjl).at_
      · obtain ⟨h1,h2⟩:=hnx
        have hsk:=curP_skip h1 h2
        have hix : (IntKind.i64.wrap ((j : Int) + 1)).toNat = j + 1:=by rw [wsucc j (by omega)];rfl
        have hj1 : Value.int .i64 (IntKind.i64.wrap ((j : Int) + 1)) = .int .i64 ((j + 1 : Nat) : Int):=by rw [wsucc j (by omega)]
        have heq : Value.bool (iEq (ms[j + 1]'h1).at_ (ms[j]'hjl).at_) = .bool true:=by rw [(iEq_t _ _).mpr h2]
        generalize hS2 : sumM (ms.take (j + 1)) = S2 at *
        generalize curP ms j = O at *
        repeat' first
 | (apply p1 (hd:=rfl);case hop=>first|(apply D_move;rfl)|(apply D_assign;rfl)|exact D_sc (D_int rfl rfl rfl) hw|exact D_sc (D_int rfl rfl rfl) hj1|(apply D_int;rfl;rfl;rfl)|(apply D_loadW;rfl;rfl)|(apply D_idxAn;rfl;rfl;(first|omega|(simp;done)))|exact D_fldB rfl)
 | refine W_seq ?_
 | refine W_region ?_
 | (refine idC ?_;first|refine c1 rfl ?_|refine c0 rfl ?_|refine cs rfl (fun _=>?_) (fun _=>?_))
 | refine WL_nil ?_
 | refine tn ?_
 | refine te ?_
 | (refine idB ?_;refine bh rfl ?_)
 | refine W_skip ?_
 | refine W_block ?_
 | refine W_exit ?_
 | refine W_ret ?_
 | refine sr ?_
 | (refine idR ?_;refine ret2 rfl rfl rfl rfl ?_ ?_)
 | (refine idLd ?_;refine p1L (D_loadB1 rfl rfl rfl) rfl ?_)
 | (refine idA ?_;refine m_alloc rfl ?_)
 | (refine idS ?_;refine pS (S_store rfl rfl rfl rfl rfl rfl rfl) ?_)
 | refine Le.int ?_
 | (refine idW ?_;refine W_draw0 rfl ?_)
 | (apply d1 (hd:=rfl);case hop=>first|(apply D_move;rfl)|exact D_sc (D_int rfl rfl rfl) hj1|exact D_sc (D_int rfl rfl rfl) heq|(apply D_load1;rfl)|(apply D_fld;rfl)|(apply D_pickT;rfl;rfl)|(apply D_pickF;rfl;rfl)|(apply D_int;rfl;rfl;rfl)|(apply D_lenM;rfl)|(apply D_idxAn;rfl;rfl;(first|omega|(simp;done)))|exact D_fldB rfl)
 | (refine idDg ?_;first|refine dg0t rfl rfl rfl ?_|refine dgr rfl rfl ?_|refine dgs rfl rfl (fun _=>?_) (fun _=>?_))
 | (refine idDn ?_;refine dL _ (fun hp' hs=>D_loadB1 rfl (hs.trans rfl) rfl) rfl ?_)
 | (refine WD_nil (by first|decide +kernel|kernel_rfl|rfl) ?_)
        all_goals first
          | contradiction
          | (exfalso;omega)
          | (refine ⟨rfl,j + 1,by omega,by omega,[0],rentE ?_ ⟨⟨_,rfl,.pur⟩,⟨_,rfl,?_⟩,⟨_,rfl,by rw [hS2];exact .pur⟩,⟨_,rfl,.pur⟩,⟨_,rfl,.pur⟩,⟨_,rfl,.pur⟩,trivial⟩⟩
             · rw [hsk];rfl
             · rw [hsk];exact .sl rfl)
          | skip
      · have hstp:=curP_step hs hjl fun h2 e=>hnx ⟨h2,e⟩
        have hla:=last_pc (curP ms j) (by omega)
        have hj1 : Value.int .i64 (IntKind.i64.wrap ((j : Int) + 1)) = .int .i64 ((j + 1 : Nat) : Int):=by rw [wsucc j (by omega)]
        generalize hS2 : sumM (ms.take (j + 1)) = S2 at *
        generalize curP ms j = O at *
        repeat' first
 | (apply p1 (hd:=rfl);case hop=>first|(apply D_move;rfl)|(apply D_assign;rfl)|exact D_sc (D_int rfl rfl rfl) hw|exact D_sc (D_int rfl rfl rfl) hj1|(apply D_pc hla;rfl;exact .tok rfl .nil)|(apply D_int;rfl;rfl;rfl)|(apply D_loadW;rfl;rfl)|(apply D_idxAn;rfl;rfl;(first|omega|(simp;done)))|(apply D_lit;rfl;rfl;rfl;rfl)|exact D_build rfl|exact D_fldB rfl)
 | refine W_seq ?_
 | refine W_region ?_
 | (refine idC ?_;first|refine c0 rfl ?_|refine cs rfl (fun _=>?_) (fun _=>?_))
 | refine WL_nil ?_
 | refine tn ?_
 | refine bn ?_
 | refine te ?_
 | (refine idB ?_;refine bh rfl ?_)
 | refine W_skip ?_
 | refine W_block ?_
 | refine W_exit ?_
 | refine W_ret ?_
 | refine sr ?_
 | (refine idR ?_;refine ret2 rfl rfl rfl rfl ?_ ?_)
 | (refine idLd ?_;refine p1L (D_loadB1 rfl rfl rfl) rfl ?_)
 | (refine idA ?_;refine m_alloc rfl ?_)
 | (refine idS ?_;refine pS (S_store rfl rfl rfl rfl rfl rfl rfl) ?_)
 | refine Le.int ?_
 | (refine idAp ?_;refine m_appB rfl rfl rfl (by first|rfl|assumption|exact get_set (by assumption)|exact get_set (get_set (by assumption))|exact get_set (get_set (get_set (by assumption)))|((repeat first|assumption|exact get_last|(refine get_last2 ?_;focus (simp;done))|apply get_set|apply get_app|(apply get_ne;focus omega));done)) ?_ rfl rfl ?_ ?_ rfl ?_;(first|rfl|focus (simp only [List.length_map,List.length_append,List.length_cons,List.length_nil];omega)|focus (simp;done)|focus (simp;omega));(first|focus (simp only [List.length_map,List.length_append,List.length_cons,List.length_nil];omega)|focus (simp;done)|focus (simp;omega));(first|focus (simp only [List.length_map,List.length_append,List.length_cons,List.length_nil];omega)|focus (simp;done)|focus (simp;omega)))
 | (refine idW ?_;refine W_draw0 rfl ?_)
 | (apply d1 (hd:=rfl);case hop=>first|(apply D_move;rfl)|exact D_sc (D_int rfl rfl rfl) hj1|(apply D_load1;rfl)|(apply D_fld;rfl)|(apply D_pickT;rfl;rfl)|(apply D_pickF;rfl;rfl)|(apply D_int;rfl;rfl;rfl)|(apply D_lenM;rfl)|(apply D_idxAn;rfl;rfl;(first|omega|(simp;done)))|exact D_fldB rfl)
 | (refine idDg ?_;first|refine dg0t rfl rfl rfl ?_|refine dgr rfl rfl ?_|refine dgs rfl rfl (fun _=>?_) (fun _=>?_))
 | (refine idDn ?_;refine dL _ (fun hp' hs=>D_loadB1 rfl (hs.trans rfl) rfl) rfl ?_)
 | (refine WD_nil (by first|decide +kernel|kernel_rfl|rfl) ?_)
        all_goals first
          | contradiction
          | (exfalso;omega)
          | (exfalso;exact hnx ⟨by omega,by assumption⟩)
          | (rw [if_pos (by assumption)] at hstp
             refine ⟨rfl,j + 1,by omega,by omega,[0],rentE ?_ ⟨⟨_,rfl,.pur⟩,⟨_,rfl,?_⟩,⟨_,rfl,by rw [hS2];exact .pur⟩,⟨_,rfl,.pur⟩,⟨_,rfl,.pur⟩,⟨_,rfl,.pur⟩,trivial⟩⟩
             · rw [hstp];rfl
             · rw [hstp];exact .sl rfl)
          | (rw [if_neg (by assumption)] at hstp
             refine ⟨rfl,j + 1,by omega,by omega,[0],rentE ?_ ⟨⟨_,rfl,.pur⟩,⟨_,rfl,?_⟩,⟨_,rfl,by rw [hS2];exact .pur⟩,⟨_,rfl,.pur⟩,⟨_,rfl,.pur⟩,⟨_,rfl,.pur⟩,trivial⟩⟩
             · rw [show (curP ms (j + 1)).length = (O.map ptC).length + 1 by rw [hstp];simp];rfl
             · rw [hstp,show (O ++ [(⟨(ms[j]'hjl).at_,S2⟩ : Pt)]).map ptC = O.map ptC ++ [ptC ⟨(ms[j]'hjl).at_,S2⟩] by simp]
               show Mv [0] (.sl (some 0) 2 (O.map ptC ++ [ptC ⟨(ms[j]'hjl).at_,S2⟩])) _
               exact .sl rfl)
          | skip
    · have e : j = ms.length:=by omega
      subst e
      repeat' first
 | (apply p1 (hd:=rfl);case hop=>first|(apply D_move;rfl)|(apply D_assign;rfl)|(apply D_int;rfl;rfl;rfl)|(apply D_loadW;rfl;rfl)|(apply D_idxAn;rfl;rfl;(first|omega|(simp;done)))|exact D_fldB rfl)
 | refine W_seq ?_
 | refine W_region ?_
 | (refine idC ?_;first|refine c0 rfl ?_|refine cs rfl (fun _=>?_) (fun _=>?_))
 | refine WL_nil ?_
 | refine tn ?_
 | refine te ?_
 | (refine idB ?_;refine bh rfl ?_)
 | refine W_skip ?_
 | refine W_block ?_
 | refine W_exit ?_
 | refine W_ret ?_
 | refine sr ?_
 | (refine idR ?_;refine ret2 rfl rfl rfl rfl ?_ ?_)
 | (refine idLd ?_;refine p1L (D_loadB1 rfl rfl rfl) rfl ?_)
 | (refine idA ?_;refine m_alloc rfl ?_)
 | (refine idS ?_;refine pS (S_store rfl rfl rfl rfl rfl rfl rfl) ?_)
 | refine Le.int ?_
 | (refine idW ?_;refine W_draw0 rfl ?_)
 | (apply d1 (hd:=rfl);case hop=>first|(apply D_move;rfl)|(apply D_load1;rfl)|(apply D_fld;rfl)|(apply D_pickT;rfl;rfl)|(apply D_pickF;rfl;rfl)|(apply D_int;rfl;rfl;rfl)|(apply D_lenM;rfl)|(apply D_idxA;rfl;rfl;omega;(first|omega|(simp;done)|(simp;omega)))|exact D_fldB rfl)
 | (refine idDg ?_;first|refine dg0t rfl rfl rfl ?_|refine dgr rfl rfl ?_|refine dgs rfl rfl (fun _=>?_) (fun _=>?_))
 | (refine idDn ?_;refine dL _ (fun hp' hs=>D_loadB1 rfl (hs.trans rfl) rfl) rfl ?_)
 | (refine WD_nil (by first|decide +kernel|kernel_rfl|rfl) ?_)
      all_goals first
        | (exfalso;omega)
        | exact Le.tokq rfl
        | rfl
        | skip
end Go.Proofs

namespace Go.Proofs
open Go.AL Go.Sort
attribute [local irreducible] Go.AL.W Go.AL.WL Go.AL.WD Go.AL.POp Go.AL.PPOp Go.AL.POpS Go.AL.PC Go.AL.AC Go.AL.YW Go.AL.Ret Go.AL.Le Go.AL.thn Go.AL.inBlk Go.AL.scp
def alN : Val:=⟨1,1,[]⟩
def alT : Val:=⟨3,0,[97]⟩
def al1 : Dat:=⟨20,10,⟨1,1,[]⟩,1,true,-9223372036854775808,9223372036854775807⟩
def al2 : Dat:=⟨21,10,⟨1,1,[]⟩,1,true,0,9⟩
def al3 : Dat:=⟨20,10,⟨1,1,[]⟩,2,false,5,9223372036854775807⟩
def al4 : Dat:=⟨20,11,⟨3,0,[97]⟩,2,true,-9223372036854775808,9223372036854775807⟩
def alL : List Dat:=[al1,al2,al3,al4]
def alF1 : Fac:=⟨20,10,⟨1,1,[]⟩,[⟨-9223372036854775808,5⟩]⟩
def alF2 : Fac:=⟨20,11,⟨3,0,[97]⟩,[⟨-9223372036854775808,9223372036854775807⟩]⟩
def alF3 : Fac:=⟨21,10,⟨1,1,[]⟩,[⟨0,9⟩]⟩
theorem some29_pc [GlobF Tryz.prog] : PC Tryz.prog 37 [] (sl9 alL):=by
  refine PC.of_body Tryz.func37 Tryz.ntmps37 rfl rfl rfl ?_
  repeat' first
 | (apply p1 (hd:=rfl);case hop=>first|(apply D_assign;rfl)|(apply D_loadW;rfl;rfl)|(apply D_lit;rfl;rfl;rfl;rfl)|exact D_build rfl)
 | refine W_seq ?_
 | refine W_region ?_
 | refine WL_nil ?_
 | refine tn ?_
 | refine W_ret ?_
 | (refine idR ?_;refine ret1 rfl rfl rfl ?_)
 | (refine idA ?_;refine m_var rfl rfl rfl rfl rfl rfl rfl ?_)
  all_goals first|exact Le.of_eq rfl|rfl|skip
theorem al_mem {d : Dat} (h : d ∈ alL) : d = al1 ∨ d = al2 ∨ d = al3 ∨ d = al4:=by simpa [alL] using h
theorem al_rg : rgD alL:=fun d hd=>by
  rcases al_mem hd with rfl|rfl|rfl|rfl <;> exact ⟨by decide,by decide⟩
theorem al_s : ∀ d,d ∈ alL → d.v.s.length < 9223372036854775808:=fun d hd=>by
  rcases al_mem hd with rfl|rfl|rfl|rfl <;> decide
theorem alN_may : mayB ⟨1,1,[]⟩ = true:=by unfold mayB;rw [dP_t];exact .inr (.inl ⟨.inl rfl,rfl⟩)
theorem alT_may : mayB ⟨3,0,[97]⟩ = true:=by unfold mayB;rw [dP_t];exact .inr (.inr (.inr (.inl ⟨.inl rfl,rfl,by decide⟩)))
theorem al_may : ∀ d,d ∈ alL → dmayP d:=fun d hd=>by
  rcases al_mem hd with rfl|rfl|rfl|rfl <;> exact ⟨by decide,by decide,by decide,by decide,by first|exact alN_may|exact alT_may,by decide,by decide,by decide⟩
theorem one_in (f t y : Int) : inS [⟨f,t⟩] y ↔ f ≤ y ∧ y < t:=by
  unfold inS
  constructor
  · rintro ⟨s,hs,h1,h2⟩
    rw [List.mem_singleton.1 hs] at h1 h2;exact ⟨h1,h2⟩
  · intro h;exact ⟨_,.head _,h⟩
theorem al_fold : foldR alL = some [alF1,alF2,alF3]:=by
  refine fold_is al_rg al_may ?_ ?_ fun k y=>?_
  · rintro ⟨d,hd,d',hd',hk,ht,ha,hb,_⟩
    rcases al_mem hd with rfl|rfl|rfl|rfl <;> rcases al_mem hd' with rfl|rfl|rfl|rfl <;> first|(revert ha;decide)|(revert hb;decide)|(revert ht;decide)|(revert hk;unfold alP;decide)
  · intro i hi _
    have hrise : riseF [alF1,alF2,alF3]:=by
      refine .cons (fun y hy=>?_) (.cons (fun y hy=>?_) (List.pairwise_singleton _ _))
      · simp only [List.mem_cons,List.not_mem_nil,or_false] at hy
        rcases hy with rfl|rfl <;> decide
      · simp only [List.mem_cons,List.not_mem_nil,or_false] at hy
        subst hy;decide
    refine ⟨?_,fun h0=>List.pairwise_iff_getElem.1 hrise (i - 1) i (by omega) hi (by omega)⟩
    have : ([alF1,alF2,alF3] : List Fac)[i] ∈ [alF1,alF2,alF3]:=List.getElem_mem hi
    generalize ([alF1,alF2,alF3] : List Fac)[i] = f at *
    simp only [List.mem_cons,List.not_mem_nil,or_false] at this
    rcases this with rfl|rfl|rfl
    all_goals refine ⟨⟨by decide,by decide,by decide,by decide,by first|exact alN_may|exact alT_may,by decide,by decide,by decide⟩,by decide,fun s hs=>?_,List.pairwise_singleton _ _⟩
    all_goals
      rw [List.mem_singleton.1 hs];decide
  · have s1 : inS alF1.sp y ↔ -9223372036854775808 ≤ y ∧ y < 5:=one_in _ _ _
    have s2 : inS alF2.sp y ↔ -9223372036854775808 ≤ y ∧ y < 9223372036854775807:=one_in _ _ _
    have s3 : inS alF3.sp y ↔ 0 ≤ y ∧ y < 9:=one_in _ _ _
    have c1 : covD al1 y ↔ -9223372036854775808 ≤ y ∧ y < 9223372036854775807:=Iff.rfl
    have c2 : covD al2 y ↔ 0 ≤ y ∧ y < 9:=Iff.rfl
    have c3 : covD al3 y ↔ 5 ≤ y ∧ y < 9223372036854775807:=Iff.rfl
    have c4 : covD al4 y ↔ -9223372036854775808 ≤ y ∧ y < 9223372036854775807:=Iff.rfl
    have m1 : al1 ∈ alL:=.head _
    have m2 : al2 ∈ alL:=.tail _ (.head _)
    have m3 : al3 ∈ alL:=.tail _ (.tail _ (.head _))
    have m4 : al4 ∈ alL:=.tail _ (.tail _ (.tail _ (.head _)))
    have k1 : ∀ {a b : Fac},cmpF a k = 0 → cmpF b k = 0 → a.e = b.e ∧ a.a = b.a:=fun h h'=>by
      rw [cmpF_z] at h h';exact ⟨h.1.trans h'.1.symm,h.2.1.trans h'.2.1.symm⟩
    constructor
    · rintro ⟨f,hf,hk,hy⟩
      simp only [List.mem_cons,List.not_mem_nil,or_false] at hf
      rcases hf with rfl|rfl|rfl
      · rw [s1] at hy
        refine ⟨al1,m1,hk,rfl,c1.2 (by omega),fun d' hd' hk' hc=>?_⟩
        rcases al_mem hd' with rfl|rfl|rfl|rfl
        · decide
        · decide
        · rw [c3] at hc;omega
        · exact absurd (k1 hk hk').2 (by decide)
      · rw [s2] at hy
        refine ⟨al4,m4,hk,rfl,c4.2 hy,fun d' hd' hk' hc=>?_⟩
        rcases al_mem hd' with rfl|rfl|rfl|rfl <;> decide
      · rw [s3] at hy
        refine ⟨al2,m2,hk,rfl,c2.2 hy,fun d' hd' hk' hc=>?_⟩
        rcases al_mem hd' with rfl|rfl|rfl|rfl
        · decide
        · decide
        · exact absurd (k1 hk hk').1 (by decide)
        · exact absurd (k1 hk hk').1 (by decide)
    · rintro ⟨d,hd,hk,ha,hc,hmx⟩
      rcases al_mem hd with rfl|rfl|rfl|rfl
      · refine ⟨alF1,.head _,hk,s1.2 ?_⟩
        rw [c1] at hc
        by_cases h3 : 5 ≤ y
        · exfalso
          have:=hmx al3 m3 hk (c3.2 ⟨h3,hc.2⟩)
          revert this;decide
        · omega
      · exact ⟨alF3,.tail _ (.tail _ (.head _)),hk,s3.2 (c2.1 hc)⟩
      · exact absurd ha (by decide)
      · exact ⟨alF2,.tail _ (.head _),hk,s2.2 (c4.1 hc)⟩
theorem al_sort : dsortL 1 alL = [al1,al3,al4,al2]:=by
  have h2 : ∀ d,hasB 1 d = true:=fun d=>(hasB_t 1 d).2 (.inl (by omega))
  unfold dsortL
  rw [if_pos (by decide),List.filter_eq_self.2 fun d _=>h2 d]
  refine (sortC_eq (wc_cmpD 1) (cmpD_z 1) ?_ fun x=>by simp [alL];constructor <;> (rintro (h|h|h|h) <;> simp [h])).symm
  unfold Rise
  refine .cons (fun y hy=>?_) (.cons (fun y hy=>?_) (.cons (fun y hy=>?_) (List.pairwise_singleton _ _)))
  all_goals simp only [List.mem_cons,List.not_mem_nil,or_false] at hy
  · rcases hy with rfl|rfl|rfl <;> decide
  · rcases hy with rfl|rfl <;> decide
  · subst hy;decide
theorem al_E : attsE alL = 0:=by
  have h : dP (allD alL) = true:=(dP_T (p:=allD alL) al_may).symm
  unfold attsE
  rw [al_fold,h];rfl
theorem al_L : attsL alL = [⟨10,3,2,2,1,2,alN,alN⟩,⟨11,1,1,1,1,1,alT,alT⟩]:=by
  unfold attsL
  rw [if_pos al_E,al_fold]
  have e : attsP alL [alF1,alF2,alF3] = attsR (dsortL 1 alL) [alF1,alF2,alF3]:=atts_eq _ _ (by decide)
  rw [show (some [alF1,alF2,alF3]).getD [] = [alF1,alF2,alF3] from rfl,e,al_sort]
  unfold attsR
  rw [show insL cmpI ([al1,al3,al4,al2].map Dat.a) = [10,11] by decide +kernel]
  have f1 : [al1,al3,al4,al2].filter (ofA 10) = [al1,al3,al2]:=rfl
  have f2 : [al1,al3,al4,al2].filter (ofA 11) = [al4]:=rfl
  rw [List.map_cons,List.map_cons,List.map_nil]
  unfold attR
  have v1 : valS [al1,al3,al2] = [alN]:=(sortC_eq wc_cmpV cmpV_zz (List.pairwise_singleton _ _) fun x=>by simp [al1,al2,al3,alN]).symm
  have v2 : valS [al4] = [alT]:=(sortC_eq wc_cmpV cmpV_zz (List.pairwise_singleton _ _) fun x=>by simp [al4,alT]).symm
  have n1 : insL cmpI ([al1,al3,al2].map Dat.e) = [20,21]:=by decide +kernel
  have n2 : insL cmpI ([al4].map Dat.e) = [20]:=by decide +kernel
  have a1 : addN [al1,al3,al2] = 2:=by decide +kernel
  have a2 : addN [al4] = 1:=by decide +kernel
  rw [f1,f2,v1,v2,n1,n2,a1,a2]
  rfl
theorem alive29_pc [GlobF Tryz.prog] : PC Tryz.prog 28 [] (.sc (.bool true)):=by
  have q:=attrs_pc alL (by decide) al_s al_rg
  rw [al_L,al_E] at q
  refine PC.of_body Tryz.func28 Tryz.ntmps28 rfl rfl rfl ?_
  repeat' first
 | (apply p1 (hd:=rfl);case hop=>first|(apply D_move;rfl)|(apply D_assign;rfl)|(apply D_pc some29_pc;rfl;exact .nil)|(apply D_pc q;rfl;exact .same rfl .nil)|(apply D_ext;rfl;rfl)|exact D_build rfl)
 | refine W_seq ?_
 | refine W_region ?_
 | refine WL_nil ?_
 | refine tn ?_
 | refine W_ret ?_
 | (refine idR ?_;refine ret1 rfl rfl rfl ?_)
 | (refine idA ?_;refine m_var rfl rfl rfl rfl rfl rfl rfl ?_)
 | refine Le.bool ?_
 | (refine idW ?_;refine W_draw0 rfl ?_)
 | (apply d1 (hd:=rfl);case hop=>first|(apply D_move;rfl)|(apply D_assign;rfl)|(apply D_load1;rfl)|(apply D_fld;rfl)|(apply D_pickT;rfl;rfl)|(apply D_pickF;rfl;rfl)|(apply D_int;rfl;rfl;rfl)|(apply D_lenM;rfl)|(apply D_loadW;rfl;rfl)|(apply D_idxAn;rfl;rfl;(first|omega|(simp;done)))|exact D_build rfl|exact D_eqA rfl rfl rfl rfl rfl rfl rfl)
 | (refine idDg ?_;first|refine dg0t rfl rfl rfl ?_|refine dgr rfl rfl ?_|refine dgs rfl rfl (fun _=>?_) (fun _=>?_))
 | (refine WD_nil (by first|decide +kernel|kernel_rfl|rfl) ?_)
  all_goals first
    | contradiction
    | rfl
    | exact (iEq_t _ _).mpr rfl
    | exact (lEq_t _ _).mpr rfl
    | skip
end Go.Proofs
