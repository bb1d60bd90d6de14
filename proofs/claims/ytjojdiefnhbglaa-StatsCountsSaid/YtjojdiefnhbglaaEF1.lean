/- Contracts of datoms sorted; of stats' sorted ones, and the document's. -/
import Derived.Test.YtjojdiefnhbglaaED3
import Derived.Test.YtjojdiefnhbglaaEC2
import Derived.Test.YtjojdiefnhbglaaOps21
import Derived.Test.YtjojdiefnhbglaaEInst
import Derived.Shelf.Spec.SlicesInsertGrow
set_option linter.all false
namespace Go.Proofs
open Go.AL Go.Sort
attribute [local irreducible] Go.AL.W Go.AL.WL Go.AL.WD Go.AL.POp Go.AL.PPOp Go.AL.POpS Go.AL.PC Go.AL.AC Go.AL.YW Go.AL.Ret Go.AL.Le Go.AL.thn Go.AL.inBlk Go.AL.scp
abbrev sl9 (l : List Dat) : AV:=.sl none 9 (l.map dC)
theorem rent {rg rg' : List (Nat × AV)} {h : List AObj} {q n k e : Nat} (hq : h[q]? = some (.tail n k e)) (hr : RenL [q] rg rg') : Ren ⟨[],0⟩ [q] rg h rg' [.tail n k e] :=
  ⟨by simp,fun r hr=>absurd hr (Nat.not_lt_zero r),fun r hr=>(by cases hr),hr,⟨⟨_,hq,.tail _ _ _⟩,trivial⟩⟩
theorem snocG {α : Type} (l : List α) : l = [] ∨ ∃ m x,l = m ++ [x]:=by
  cases h : l.reverse with
  | nil=>exact .inl (by simpa using h)
  | cons x m=>exact .inr ⟨m.reverse,x,by have:=congrArg List.reverse h;simpa using this⟩
instance (p : Prop) : BP (dP p) p (¬ p):=⟨fun h=>by rwa [dP_t] at h,fun h=>by rwa [dP_f] at h⟩
instance (s : List UInt8) : BP (wordB s) (WordP s) (¬ WordP s):=⟨fun h=>by unfold wordB at h;simpa using h,fun h=>by unfold wordB at h;simpa using h⟩
instance (v : Val) : BP (mayB v) (MayP v) (¬ MayP v):=⟨fun h=>by unfold mayB at h;rwa [dP_t] at h,fun h=>by unfold mayB at h;rwa [dP_f] at h⟩
instance : Xt Try.prog 173 Extern.BytealgCompare.compare:=⟨run_callFunc_extern Try.func173 (by kernel_rfl) (by kernel_rfl) (by kernel_rfl) (by kernel_rfl)⟩
instance : Inhabited Sp:=⟨⟨0,0⟩⟩
noncomputable instance : DecidableEq Val:=fun _ _=>Classical.propDecidable _
instance : Inhabited Dat:=⟨dat0⟩
set_option maxHeartbeats 4000000 in
theorem dele_pc [GlobF Try.prog] (o : Int) (d : Dat) : PC Try.prog 124 [eD d,.ep [.sc (.int .i64 o)]] (.sc (.bool (!hasB o d))):=by
  refine PC.of_body Try.func124 Try.ntmps124 rfl rfl rfl ?_
  repeat' first
 | (apply p1 (hd:=rfl);case hop=>first|(apply D_assign;rfl)|(apply D_pc (dhas_pc o d);rfl;exact .same rfl (.same rfl .nil))|(apply D_load1;rfl)|(apply D_not;rfl)|(apply D_loadW;rfl;rfl)|(apply D_box;rfl;rfl))
 | refine W_seq ?_
 | refine W_region ?_
 | refine WL_nil ?_
 | refine tn ?_
 | refine W_ret ?_
 | (refine idR ?_;refine ret1 rfl rfl rfl ?_)
 | (refine Le.bool ?_)
  all_goals (show bNot (hasB o d) = _;unfold bNot;rfl)
set_option maxHeartbeats 4000000 in
theorem ordc_pc [GlobF Try.prog] (o : Int) (ho : 1 ≤ o ∧ o ≤ 4) (a b : Dat) : PC Try.prog 126 [eD a,eD b,.ep [.sc (.int .i64 o)]] (.sc (.int .i64 (cmpD o a b))):=by
  refine PC.of_body Try.func126 Try.ntmps126 rfl rfl rfl ?_
  repeat' first
 | (apply p1 (hd:=rfl);case hop=>first|(apply D_assign;rfl)|(apply D_pc (dcmp_pc o a b);rfl;exact .same rfl (.same rfl (.same rfl .nil)))|(apply D_load1;rfl)|(apply D_loadW;rfl;rfl)|(apply D_box;rfl;rfl))
 | refine W_seq ?_
 | refine W_region ?_
 | refine WL_nil ?_
 | refine tn ?_
 | refine W_ret ?_
 | (refine idR ?_;refine ret1 rfl rfl rfl ?_)
 | (refine Le.int ?_)
  all_goals (rw [if_pos ho];rfl)
instance : Inhabited Val:=⟨val0⟩
theorem take_map_len {α β : Type} (l : List α) (f : α → β) : (l.map f).take l.length = l.map f:=List.take_of_length_le (by simp)
instance : Inhabited Dat:=⟨dat0⟩
theorem dC_enc (d : Dat) : dC d = (encD d).map .sc:=rfl
theorem dC_len (d : Dat) : (dC d).length = 9:=rfl
theorem sortD_ac [GlobF Try.prog] {h : List AObj} {r : Nat} {l : List Dat} {sp : List AV} (o : Int) (ho : 1 ≤ o ∧ o ≤ 4) (hr : h[r]? = some (.cells ((l.map dC).flatten ++ sp))) (hne : 0 < l.length) (hl : l.length < 4611686018427387904) :
    AC Try.prog 125 [.mr r 0 l.length,.fn (.func 126) [] [.ep [.sc (.int .i64 o)]]] h (fun v h'=>v = .tu [] ∧ h' = h.set r (.cells (((l.mergeSort fun x y=>!(ltOf (cmpD o) y x)).map dC).flatten ++ sp))) :=
  sort_ac Try.laysSD Try.isAgg36 Try.sizeOf36 encD dC dC_enc (fun _=>rfl) (fun x v hv=>by simp [encD] at hv;rcases hv with rfl|rfl|rfl|rfl|rfl|rfl|rfl|rfl|rfl <;> rfl) (cmpD o) (wc_cmpD o).swo (ltOf_tot (wc_cmpD o) (cmpD_z o)) 126 [.ep [.sc (.int .i64 o)]] _
    (fun G v hv=>fn_inv hv ⟨Le.of_eq rfl,trivial⟩) (fun x y=>ordc_pc o ho x y) hr hne hl
theorem sortD_ac' [GlobF Try.prog] {h : List AObj} {r n : Nat} {l : List Dat} {sp : List AV} (o : Int) (ho : 1 ≤ o ∧ o ≤ 4) (hn : l.length = n) (hr : h[r]? = some (.cells ((l.map dC).flatten ++ sp))) (hl : l.length < 4611686018427387904) :
    AC Try.prog 125 [.mr r 0 n,.fn (.func 126) [] [.ep [.sc (.int .i64 o)]]] h (fun v h'=>v = .tu [] ∧ h' = h.set r (.cells (((l.mergeSort fun x y=>!(ltOf (cmpD o) y x)).map dC).flatten ++ sp))):=by
  subst hn
  rcases Nat.eq_zero_or_pos l.length with h0|h0
  · have e : l = []:=List.length_eq_zero_iff.1 h0
    subst e
    have e2 : ([] : List Dat).mergeSort (fun x y=>!(ltOf (cmpD o) y x)) = []:=List.length_eq_zero_iff.1 (List.length_mergeSort _)
    rw [e2]
    have:=sort_none_ac Try.laysSD r 0 (.fn (.func 126) [] [.ep [.sc (.int .i64 o)]]) h
    rw [set_self hr];exact this
  · exact sortD_ac o ho hr h0 hl
def indexI (p : Dat → Bool) : List Dat → Int
  | []=>-1
  | x :: t=>if p x then (if indexI p t = -1 then -1 else indexI p t + 1) else 0
theorem indexI_all (p : Dat → Bool) : ∀ l : List Dat,(∀ (j : Nat) (h : j < l.length),p l[j] = true) → indexI p l = -1
  | [],_=>rfl
  | x :: t,h=>by
    have h0 : p x = true:=h 0 (by simp)
    have ih:=indexI_all p t fun j hj=>h (j + 1) (by simpa using hj)
    simp only [indexI];rw [if_pos h0,if_pos ih]
theorem indexI_at (p : Dat → Bool) : ∀ (l : List Dat) (n : Nat) (hn : n < l.length),(∀ (j : Nat) (h : j < l.length),j < n → p l[j] = true) → p l[n] = false → indexI p l = n
  | [],n,hn,_,_=>by simp at hn
  | x :: t,0,_,_,h=>by simp only [List.getElem_cons_zero] at h;simp only [indexI];rw [if_neg (by rw [h];decide)];rfl
  | x :: t,n + 1,hn,hj,h=>by
    have h0 : p x = true:=hj 0 (by simp) (by omega)
    have ih:=indexI_at p t n (by simpa using hn) (fun j hj' hlt=>by
      have:=hj (j + 1) (by simpa using hj') (by omega)
      simpa using this) (by simpa using h)
    simp only [indexI];rw [if_pos h0,ih,if_neg (by omega)];omega
set_option maxHeartbeats 8000000 in
theorem indexD_ac [GlobF Try.prog] {h : List AObj} {r : Nat} {l : List Dat} {sp : List AV} (o : Int) (hr : h[r]? = some (.cells ((l.map dC).flatten ++ sp))) (hl : l.length < 4611686018427387904) :
    AC Try.prog 121 [.mr r 0 l.length,.fn (.func 124) [] [.ep [.sc (.int .i64 o)]]] h (fun v h'=>v = .sc (.int .i64 (indexI (hasB o) l)) ∧ h' = h):=by
  refine AC.of_body Try.func121 Try.ntmps121 rfl rfl rfl ?_
  repeat' first
 | (apply p1 (hd:=rfl);case hop=>first|(apply D_move;rfl)|(apply D_assign;rfl)|(apply D_lenR;rfl))
 | refine W_seq ?_
 | refine W_region ?_
 | refine WL_nil ?_
 | refine tn ?_
 | (refine W_block ?_)
  refine W_loopL (X:=Nat) (fun i=>[(0,.mr r 0 l.length),(1,.fn (.func 124) [] [.ep [.sc (.int .i64 o)]]),(7,.sc (.int .i64 (l.length : Int))),(8,.sc (.int .i64 (i : Int)))]) (fun _=>h)
    (fun i=>i ≤ l.length ∧ ∀ (j : Nat) (h : j < l.length),j < i → hasB o l[j] = true) (fun i=>l.length - i) 0 ⟨Nat.zero_le _,fun j h hj=>absurd hj (Nat.not_lt_zero j)⟩ ⟨rfl,rfl,rfl,rfl,trivial⟩ rfl ?_
  rintro i ⟨hi,hz⟩
  repeat' first
 | (apply p1 (hd:=rfl);case hop=>first|(apply D_move;rfl)|(apply D_assign;rfl)|(apply D_int;rfl;rfl;rfl)|(apply D_ixRn;rfl;rfl;(first|omega|(simp;done))))
 | refine W_seq ?_
 | refine W_region ?_
 | (refine idC ?_;refine cs rfl (fun _=>?_) (fun _=>?_))
 | refine WL_nil ?_
 | refine tn ?_
 | refine te ?_
 | (refine idB ?_;refine bh rfl ?_)
 | refine W_skip ?_
 | refine W_block ?_
 | refine W_exit ?_
 | (refine W_ret ?_)
  · have hi1 : i < l.length:=by omega
    have he1 : 0 + i * 9 = i * 9:=Nat.zero_add _
    repeat' first
 | (refine p1L (d:=15) (D_loadRA (i:=i) rfl hr dC_len hi1 he1) rfl ?_)
 | (apply p1 (hd:=rfl);case hop=>first|(apply D_move;rfl)|(apply D_assign;rfl)|(apply D_add1;rfl;rfl;omega)|(apply D_pcC (ys:=[eD l[i]]) (ys':=[.ep [.sc (.int .i64 o)]]) (dele_pc o l[i]);rfl;exact .same rfl .nil;exact ⟨Le.of_eq rfl,trivial⟩))
 | refine W_seq ?_
 | refine W_region ?_
 | (refine idC ?_;refine cs rfl (fun _=>?_) (fun _=>?_))
 | refine WL_nil ?_
 | refine tn ?_
 | refine tr ?_
 | refine br ?_
 | refine bn ?_
 | refine W_skip ?_
 | (refine W_ret ?_)
    · rename_i hx
      have hx' : hasB o l[i] = false:=by simpa using hx
      exact retK1 (.inl rfl) rfl rfl (ResO.tmp rfl) ⟨by rw [indexI_at (hasB o) l i hi1 hz hx'],rfl⟩
    · rename_i hx
      have hx' : hasB o l[i] = true:=by simpa using hx
      refine ⟨rfl,i + 1,⟨by omega,fun j h hj=>?_⟩,by omega,⟨rfl,rfl,rfl,rfl,trivial⟩,rfl⟩
      by_cases e : j = i
      · subst e;exact hx'
      · exact hz j h (by omega)
  · have hend : i = l.length:=by omega
    exact retK1 (.inl rfl) rfl rfl (ResO.tmp rfl) ⟨by rw [indexI_all (hasB o) l fun j h=>hz j h (by omega)],rfl⟩
set_option maxHeartbeats 4000000 in
theorem cloneD_ac [GlobF Try.prog] {h : List AObj} {tok : Option Nat} (l : List Dat) (hne : 0 < l.length) (hl : l.length < 1759218604500) :
    AC Try.prog 123 [.sl tok 9 (l.map dC)] h (fun v h'=>∃ sp,v = .mr (h.length + 1) 0 l.length ∧ h' = h ++ [.dead,.cells ((l.map dC).flatten ++ sp)]):=by
  have hnn : l.map dC ≠ []:=by cases l with|nil=>simp at hne|cons a l=>simp
  refine AC.of_body Try.func123 Try.ntmps123 rfl rfl rfl ?_
  repeat' first
 | (refine m_slnil rfl rfl ?_;rintro b hb)
 | refine m_lit (d:=5) rfl rfl rfl rfl rfl rfl ?_
 | (refine m_appRB (d:=7) rfl rfl get_last hnn rfl (.inr (by rw [List.length_map];omega)) (by rw [List.length_map];omega) rfl ?_;intro sp)
 | (apply p1 (hd:=rfl);case hop=>first|(apply D_move;rfl)|(apply D_assign;rfl))
 | refine W_seq ?_
 | refine W_region ?_
 | (refine idC ?_;refine cs rfl (fun _=>?_) (fun _=>?_))
 | refine WL_nil ?_
 | refine tn ?_
 | refine tr ?_
 | refine W_skip ?_
 | (refine W_ret ?_)
  · rename_i hb'
    first
      | exact absurd (hb hb') hnn
      | exact absurd (hb rfl) hnn
  · exact retK1 (.inl rfl) rfl rfl (ResO.tmp rfl) ⟨sp,by simp,by simp⟩
attribute [local irreducible] compL in
set_option maxHeartbeats 16000000 in
theorem compactD_ac [GlobF Try.prog] {h : List AObj} {r : Nat} {l : List Dat} {sp : List AV} (hr : h[r]? = some (.cells ((l.map dC).flatten ++ sp))) (hl : l.length < 4611686018427387904) :
    AC Try.prog 128 [.mr r 0 l.length] h (fun v h'=>∃ sp',v = .mr r 0 (compL l).length ∧ h' = h.set r (.cells (((compL l).map dC).flatten ++ sp'))):=by
  refine AC.of_body Try.func128 Try.ntmps128 rfl rfl rfl ?_
  repeat' first
 | (apply p1 (hd:=rfl);case hop=>first|(apply D_move;rfl)|(apply D_assign;rfl)|(apply D_int;rfl;rfl;rfl)|(apply D_lenR;rfl))
 | refine W_seq ?_
 | refine W_region ?_
 | (refine idC ?_;refine cs rfl (fun _=>?_) (fun _=>?_))
 | refine WL_nil ?_
 | refine tn ?_
 | refine tr ?_
 | refine W_skip ?_
 | refine W_block ?_
 | (refine W_ret ?_)
  · rename_i h1
    have e : compL l = l:=by
      match l,h1 with
      | [],_=>unfold compL;rfl
      | [x],_=>unfold compL;rfl
      | _ :: _ :: _,h1=>simp at h1;omega
    exact retK1 (.inl rfl) rfl rfl (ResO.tmp rfl) ⟨sp,by rw [e],by rw [e];exact (set_self hr).symm⟩
  rename_i h1
  refine W_loopL (X:=Nat) (fun j=>[(0,.mr r 0 l.length),(3,.sc (.int .i64 ((j + 1 : Nat) : Int)))]) (fun _=>h)
    (fun j=>j + 1 ≤ l.length ∧ compL (l.take (j + 1)) = l.take (j + 1)) (fun j=>l.length - j) 0 ⟨by omega,by
      match l,h1 with
      | x :: t,_=>unfold compL;rfl⟩ ⟨rfl,rfl,trivial⟩ rfl ?_
  rintro j ⟨hj,hcj⟩
  repeat' first
 | (apply p1 (hd:=rfl);case hop=>first|(apply D_move;rfl)|(apply D_assign;rfl)|(apply D_int;rfl;rfl;rfl)|(apply D_lenR;rfl))
 | refine W_seq ?_
 | refine W_region ?_
 | (refine idC ?_;refine cs rfl (fun _=>?_) (fun _=>?_))
 | refine WL_nil ?_
 | refine tn ?_
 | refine te ?_
 | (refine idB ?_;refine bh rfl ?_)
 | refine W_skip ?_
 | refine W_block ?_
 | refine W_exit ?_
 | refine W_ret ?_
 | (refine idW ?_;refine W_draw0 rfl ?_)
 | (apply d1 (hd:=rfl);case hop=>first|(apply D_move;rfl)|(apply D_ixRn;rfl;rfl;(first|omega|(simp;done))))
 | (fail)
  · have hi1 : j + 1 < l.length:=by omega
    have hi0 : j < l.length:=by omega
    have he1 : 0 + (j + 1) * 9 = (j + 1) * 9:=Nat.zero_add _
    have he0 : 0 + j * 9 = j * 9:=Nat.zero_add _
    have hct:=compL_take l j hi1
    repeat' first
 | (refine dL (d:=19) _ (fun _ hs=>D_loadRA (i:=j + 1) rfl (hs.trans hr) dC_len hi1 he1) rfl ?_)
 | (refine dL (d:=24) _ (fun _ hs=>D_loadRA (i:=j) rfl (hs.trans hr) dC_len hi0 he0) rfl ?_)
 | (apply p1 (hd:=rfl);case hop=>first|(apply D_move;rfl)|(apply D_assign;rfl)|(apply D_add1;rfl;rfl;omega)|(apply D_slRl;rfl;rfl;all_goals first|omega|((repeat rw [w64 _ (by omega) (by omega)]);omega)|decide))
 | refine W_seq ?_
 | refine W_region ?_
 | (refine idC ?_;refine cs rfl (fun _=>?_) (fun _=>?_))
 | refine WL_nil ?_
 | refine tn ?_
 | refine bn ?_
 | refine W_skip ?_
 | refine W_block ?_
 | (apply d1 (hd:=rfl);case hop=>first|(apply D_move;rfl)|(apply D_sub1;rfl;rfl;omega)|(apply D_ixRn;rfl;rfl;(first|omega|(simp;done)))|exact D_eqA rfl rfl rfl rfl rfl rfl rfl)
 | (refine WD_nil (by first|decide +kernel|kernel_rfl|rfl) ?_)
    · rename_i heq
      have hxy : l[j + 1] = l[j]:=encD_inj heq
      rw [if_pos hxy.symm,List.append_nil,hcj] at hct
      refine W_loopL (X:=Nat × Nat × List Dat) (fun x=>[(0,.mr r 0 l.length),(3,.sc (.int .i64 (x.1 : Int))),(4,.mr r (0 + (j + 1) * 9) (l.length - (j + 1))),(5,.sc (.int .i64 ((x.2.1 + 1 : Nat) : Int)))]) (fun x=>h.set r (.cells ((x.2.2.map dC).flatten ++ sp)))
        (fun x=>j + 1 + x.2.1 + 1 ≤ l.length ∧ x.2.2.length = l.length ∧ x.1 ≤ j + 1 + x.2.1 ∧ compL (l.take (j + 1 + x.2.1 + 1)) = x.2.2.take x.1 ∧ x.2.2.drop (j + 1 + x.2.1) = l.drop (j + 1 + x.2.1)) (fun x=>l.length - x.2.1) (j + 1,0,l) ⟨by dsimp only;omega,rfl,by dsimp only;omega,hct,rfl⟩ ⟨rfl,rfl,rfl,rfl,trivial⟩ (set_self hr) ?_
      rintro ⟨k,q,R⟩ ⟨g1,g2,g3,g4,g5⟩
      dsimp only at g1 g2 g3 g4 g5 ⊢
      have hr2 : (h.set r (.cells ((R.map dC).flatten ++ sp)))[r]? = some (.cells ((R.map dC).flatten ++ sp)):=get_set hr
      repeat' first
 | (apply p1 (hd:=rfl);case hop=>first|(apply D_move;rfl)|(apply D_int;rfl;rfl;rfl)|(apply D_lenR;rfl)|(apply D_slRl;rfl;rfl;all_goals first|omega|((repeat rw [w64 _ (by omega) (by omega)]);omega)|decide))
 | refine W_seq ?_
 | refine W_region ?_
 | (refine idC ?_;refine cs rfl (fun _=>?_) (fun _=>?_))
 | refine WL_nil ?_
 | refine tn ?_
 | refine te ?_
 | (refine idB ?_;refine bh rfl ?_)
 | refine W_skip ?_
 | refine W_block ?_
 | refine W_exit ?_
 | (refine idW ?_;refine W_draw0 rfl ?_)
 | (apply d1 (hd:=rfl);case hop=>first|(apply D_move;rfl)|(apply D_ixRn;rfl;rfl;(first|omega|(simp;done))))
 | (fail)
      · have hq1 : j + 1 + q + 1 < R.length:=by omega
        have hq0 : j + 1 + q < R.length:=by omega
        have hkR : k < R.length:=by omega
        have he1 : 0 + (j + 1) * 9 + (q + 1) * 9 = (j + 1 + q + 1) * 9:=by omega
        have he0 : 0 + (j + 1) * 9 + q * 9 = (j + 1 + q) * 9:=by omega
        have hek : 0 + k * 9 = k * 9:=Nat.zero_add _
        have hR1 : R[j + 1 + q + 1] = l[j + 1 + q + 1]'(by omega):=by
          have:=congrArg (·[1]?) g5
          simp only [List.getElem?_drop] at this
          rw [List.getElem?_eq_getElem hq1,List.getElem?_eq_getElem (by omega)] at this
          exact Option.some.inj this
        have hR0 : R[j + 1 + q] = l[j + 1 + q]'(by omega):=by
          have:=congrArg (·[0]?) g5
          simp only [List.getElem?_drop,Nat.add_zero] at this
          rw [List.getElem?_eq_getElem hq0,List.getElem?_eq_getElem (by omega)] at this
          exact Option.some.inj this
        have hct2:=compL_take l (j + 1 + q) (by omega)
        repeat' first
 | (refine dL (d:=38) _ (fun _ hs=>D_loadRA (i:=j + 1 + q + 1) rfl (hs.trans hr2) dC_len hq1 he1) rfl ?_)
 | (refine dL (d:=43) _ (fun _ hs=>D_loadRA (i:=j + 1 + q) rfl (hs.trans hr2) dC_len hq0 he0) rfl ?_)
 | (refine p1L (d:=50) (D_loadRA (i:=j + 1 + q + 1) rfl hr2 dC_len hq1 he1) rfl ?_)
 | (refine pS (S_storeR (i:=k) (a:=R[j + 1 + q + 1]) rfl rfl hr2 dC_len rfl hkR hek) ?_)
 | (apply p1 (hd:=rfl);case hop=>first|(apply D_move;rfl)|(apply D_assign;rfl)|(apply D_add1;rfl;rfl;omega)|(apply D_ixRn;rfl;rfl;(first|omega|(simp;done))))
 | refine W_seq ?_
 | refine W_region ?_
 | (refine idC ?_;refine cs rfl (fun _=>?_) (fun _=>?_))
 | refine WL_nil ?_
 | refine tn ?_
 | refine bn ?_
 | refine W_skip ?_
 | (apply d1 (hd:=rfl);case hop=>first|(apply D_move;rfl)|(apply D_sub1;rfl;rfl;omega)|(apply D_ixRn;rfl;rfl;(first|omega|(simp;done)))|exact D_neA rfl rfl rfl rfl rfl rfl rfl)
 | (refine WD_nil (by first|decide +kernel|kernel_rfl|rfl) ?_)
        · rename_i hne
          have hxy : l[j + 1 + q]'(by omega) ≠ l[j + 1 + q + 1]'(by omega):=fun e=>hne (by rw [hR1,hR0,e])
          rw [if_neg hxy,g4] at hct2
          refine ⟨rfl,(k + 1,q + 1,R.set k R[j + 1 + q + 1]),⟨by dsimp only;omega,by simp [g2],by dsimp only;omega,?_,?_⟩,by dsimp only;omega,⟨rfl,rfl,rfl,rfl,trivial⟩,by rw [List.set_set]⟩
          · dsimp only
            rw [show j + 1 + (q + 1) + 1 = j + 1 + q + 2 by omega,hct2,List.take_succ_eq_append_getElem (by simpa using hkR),List.take_set_of_le (Nat.le_refl _),List.getElem_set_self,hR1]
          · dsimp only
            rw [List.drop_set_of_lt (by omega),show j + 1 + (q + 1) = (j + 1 + q) + 1 by omega,← List.drop_drop,g5,List.drop_drop]
        · rename_i heq
          have hxy : l[j + 1 + q]'(by omega) = l[j + 1 + q + 1]'(by omega):=by rw [← hR1,← hR0];exact (encD_inj heq).symm
          rw [if_pos hxy,List.append_nil,g4] at hct2
          refine ⟨rfl,(k,q + 1,R),⟨by dsimp only;omega,g2,by dsimp only;omega,?_,?_⟩,by dsimp only;omega,⟨rfl,rfl,rfl,rfl,trivial⟩,rfl⟩
          · dsimp only
            rw [show j + 1 + (q + 1) + 1 = j + 1 + q + 2 by omega,hct2]
          · dsimp only
            rw [show j + 1 + (q + 1) = (j + 1 + q) + 1 by omega,← List.drop_drop,g5,List.drop_drop]
      · have hend : j + 1 + q + 1 = l.length:=by omega
        rw [hend,List.take_length] at g4
        have hkl : k ≤ R.length:=by omega
        have hlen : (compL l).length = k:=by rw [g4,List.length_take];omega
        have hcl:=row_len (l:=R) (f:=dC) (k:=9) dC_len sp
        repeat' first
 | (refine pS (S_clear (k:=9) rfl hr2 rfl (by decide) ?_) ?_;focus (rw [hcl];have:=Nat.mul_le_mul_right 3 hkl;omega))
 | (apply p1 (hd:=rfl);case hop=>first|(apply D_move;rfl)|(apply D_assign;rfl)|(apply D_slRh;rfl;rfl;all_goals first|omega|((repeat rw [w64 _ (by omega) (by omega)]);omega)|decide))
 | refine W_seq ?_
 | refine W_region ?_
 | refine WL_nil ?_
 | refine tn ?_
 | refine tr ?_
 | refine br ?_
 | (refine W_ret ?_)
        refine retK1 (.inl rfl) rfl rfl (ResO.tmp rfl) ⟨?_,?_,?_⟩
        rotate_left 1
        · rw [hlen];rfl
        rw [List.set_set]
        refine congrArg (fun x=>h.set r (AObj.cells x)) ?_
        rw [List.append_assoc]
        refine congrArg (fun x : List AV=>x ++ _) ?_
        show ((R.map dC).flatten ++ sp).take (0 + k * 9) = _
        rw [Nat.zero_add,row_take dC_len sp k hkl,g4]
    · rename_i hne
      have hxy : l[j] ≠ l[j + 1]:=fun e=>hne (by rw [e])
      rw [if_neg hxy,hcj] at hct
      refine ⟨rfl,j + 1,⟨by omega,?_⟩,by omega,⟨rfl,rfl,trivial⟩,rfl⟩
      rw [show j + 1 + 1 = j + 2 by omega,hct]
      exact (List.take_succ_eq_append_getElem hi1).symm
  · have hend : j + 1 = l.length:=by omega
    rw [hend,List.take_length] at hcj
    exact retK1 (.inl rfl) rfl rfl (ResO.tmp rfl) ⟨sp,by rw [hcj],by rw [hcj];exact (set_self hr).symm⟩
theorem compactD_ac' [GlobF Try.prog] {h : List AObj} {r n : Nat} {l : List Dat} {sp : List AV} (hn : l.length = n) (hr : h[r]? = some (.cells ((l.map dC).flatten ++ sp))) (hl : l.length < 4611686018427387904) :
    AC Try.prog 128 [.mr r 0 n] h (fun v h'=>∃ sp',v = .mr r 0 (compL l).length ∧ h' = h.set r (.cells (((compL l).map dC).flatten ++ sp'))):=by
  subst hn;exact compactD_ac hr hl
theorem indexI_cases (p : Dat → Bool) (l : List Dat) : (indexI p l = -1 ∧ l.filter p = l) ∨ ∃ n : Nat,n < l.length ∧ indexI p l = n ∧ (l.take (n + 1)).filter p = l.take n:=by
  induction l with
  | nil=>exact .inl ⟨rfl,rfl⟩
  | cons x t ih =>
    cases hp : p x with
    | false=>exact .inr ⟨0,by simp,by simp [indexI,hp],by simp [hp]⟩
    | true =>
      rcases ih with ⟨h1,h2⟩ | ⟨n,h1,h2,h3⟩
      · exact .inl ⟨by simp [indexI,hp,h1],by rw [List.filter_cons,hp,if_pos rfl,h2]⟩
      · refine .inr ⟨n + 1,by simpa using h1,?_,?_⟩
        · simp only [indexI];rw [if_pos hp,h2,if_neg (by omega)];omega
        · rw [List.take_succ_cons,List.filter_cons,hp,if_pos rfl,h3];rfl
set_option maxHeartbeats 16000000 in
theorem deleteD_ac [GlobF Try.prog] {h : List AObj} {r : Nat} {l : List Dat} {sp : List AV} (o : Int) (hr : h[r]? = some (.cells ((l.map dC).flatten ++ sp))) (hl : l.length < 4611686018427387904) :
    AC Try.prog 122 [.mr r 0 l.length,.fn (.func 124) [] [.ep [.sc (.int .i64 o)]]] h (fun v h'=>∃ sp',v = .mr r 0 (l.filter (hasB o)).length ∧ h' = h.set r (.cells (((l.filter (hasB o)).map dC).flatten ++ sp'))):=by
  have hx:=indexD_ac o hr hl
  rcases indexI_cases (hasB o) l with ⟨e,hf⟩ | ⟨n,hn,e,hf⟩
  · rw [e] at hx
    refine AC.of_body Try.func122 Try.ntmps122 rfl rfl rfl ?_
    repeat' first
 | (apply p1 (hd:=rfl);case hop=>first|(apply D_move;rfl)|(apply D_assign;rfl)|(apply D_int;rfl;rfl;rfl))
 | refine W_seq ?_
 | refine W_region ?_
 | (refine idC ?_;refine cs rfl (fun _=>?_) (fun _=>?_))
 | refine WL_nil ?_
 | refine tn ?_
 | refine tr ?_
 | refine W_skip ?_
 | refine W_block ?_
 | refine W_ret ?_
 | (refine m_call (d:=10) hx rfl rfl rfl ?_;rintro _ h2 ⟨rfl,hh⟩;have hh:=hh.symm;subst hh)
    · exact retK1 (.inl rfl) rfl rfl (ResO.tmp rfl) ⟨sp,by rw [hf],by rw [hf];exact (set_self hr).symm⟩
    all_goals (rename_i h1;exact absurd h1 (by simp))
  rw [e] at hx
  refine AC.of_body Try.func122 Try.ntmps122 rfl rfl rfl ?_
  repeat' first
 | (apply p1 (hd:=rfl);case hop=>first|(apply D_move;rfl)|(apply D_assign;rfl)|(apply D_add1;rfl;rfl;omega)|(apply D_int;rfl;rfl;rfl))
 | refine W_seq ?_
 | refine W_region ?_
 | (refine idC ?_;refine cs rfl (fun _=>?_) (fun _=>?_))
 | refine WL_nil ?_
 | refine tn ?_
 | refine tr ?_
 | refine W_skip ?_
 | refine W_block ?_
 | refine W_ret ?_
 | (refine m_call (d:=10) hx rfl rfl rfl ?_;rintro _ h2 ⟨rfl,hh⟩;have hh:=hh.symm;subst hh)
  · exfalso;omega
  refine W_loopL (X:=Nat × Nat × List Dat) (fun x=>[(0,.mr r 0 l.length),(1,.fn (.func 124) [] [.ep [.sc (.int .i64 o)]]),(5,.sc (.int .i64 (x.1 : Int))),(6,.sc (.int .i64 ((x.2.1 + 1 : Nat) : Int)))]) (fun x=>h.set r (.cells ((x.2.2.map dC).flatten ++ sp)))
    (fun x=>x.2.1 + 1 ≤ l.length ∧ x.2.2.length = l.length ∧ x.1 ≤ x.2.1 ∧ (l.take (x.2.1 + 1)).filter (hasB o) = x.2.2.take x.1 ∧ x.2.2.drop (x.2.1 + 1) = l.drop (x.2.1 + 1)) (fun x=>l.length - x.2.1) (n,n,l) ⟨by dsimp only;omega,rfl,Nat.le_refl _,hf,rfl⟩ ⟨rfl,rfl,rfl,rfl,trivial⟩ (set_self hr) ?_
  rintro ⟨k,q,R⟩ ⟨g1,g2,g3,g4,g5⟩
  dsimp only at g1 g2 g3 g4 g5 ⊢
  have hr2 : (h.set r (.cells ((R.map dC).flatten ++ sp)))[r]? = some (.cells ((R.map dC).flatten ++ sp)):=get_set hr
  repeat' first
 | (apply p1 (hd:=rfl);case hop=>first|(apply D_move;rfl)|(apply D_int;rfl;rfl;rfl)|(apply D_lenR;rfl)|(apply D_ixRn;rfl;rfl;(first|omega|(simp;done)))|(apply D_slRl;rfl;rfl;all_goals first|omega|((repeat rw [w64 _ (by omega) (by omega)]);omega)|decide))
 | refine W_seq ?_
 | refine W_region ?_
 | (refine idC ?_;refine cs rfl (fun _=>?_) (fun _=>?_))
 | refine WL_nil ?_
 | refine tn ?_
 | refine te ?_
 | (refine idB ?_;refine bh rfl ?_)
 | refine W_skip ?_
 | refine W_block ?_
 | (refine W_exit ?_)
  · have hq1 : q + 1 < R.length:=by omega
    have hq2 : q + 1 < l.length:=by omega
    have hkR : k < R.length:=by omega
    have he1 : 0 + (q + 1) * 9 = (q + 1) * 9:=Nat.zero_add _
    have hek : 0 + k * 9 = k * 9:=Nat.zero_add _
    have hR1 : R[q + 1] = l[q + 1]:=by
      have:=congrArg (·[0]?) g5
      simp only [List.getElem?_drop,Nat.add_zero] at this
      rw [List.getElem?_eq_getElem hq1,List.getElem?_eq_getElem (by omega)] at this
      exact Option.some.inj this
    have hft:=filt_succ (hasB o) l (q + 1) hq2
    rw [g4,← hR1] at hft
    repeat' first
 | (refine p1L (d:=25) (D_loadRA (i:=q + 1) rfl hr2 dC_len hq1 he1) rfl ?_)
 | (refine pS (S_storeR (i:=k) (a:=R[q + 1]) rfl rfl hr2 dC_len rfl hkR hek) ?_)
 | (apply p1 (hd:=rfl);case hop=>first|(apply D_move;rfl)|(apply D_assign;rfl)|(apply D_add1;rfl;rfl;omega)|(apply D_pcC (ys:=[eD R[q + 1]]) (ys':=[.ep [.sc (.int .i64 o)]]) (dele_pc o R[q + 1]);rfl;exact .same rfl .nil;exact ⟨Le.of_eq rfl,trivial⟩)|(apply D_not;rfl)|(apply D_loadW;rfl;rfl)|(apply D_ixRn;rfl;rfl;(first|omega|(simp;done))))
 | refine W_seq ?_
 | refine W_region ?_
 | (refine idC ?_;refine cs rfl (fun _=>?_) (fun _=>?_))
 | refine WL_nil ?_
 | refine tn ?_
 | refine bn ?_
 | refine W_skip ?_
 | (refine idA ?_;refine m_var rfl rfl rfl rfl rfl rfl rfl ?_)
    · rename_i hx
      have hx' : hasB o R[q + 1] = true:=by simpa using hx
      rw [hx',if_pos rfl] at hft
      refine ⟨rfl,(k + 1,q + 1,R.set k R[q + 1]),⟨by dsimp only;omega,by simp [g2],by dsimp only;omega,?_,?_⟩,by dsimp only;omega,⟨rfl,rfl,rfl,rfl,trivial⟩,by rw [List.set_set]⟩
      · dsimp only
        rw [hft,List.take_succ_eq_append_getElem (by simpa using hkR),List.take_set_of_le (Nat.le_refl _),List.getElem_set_self]
      · dsimp only
        rw [List.drop_set_of_lt (by omega),← List.drop_drop,g5,List.drop_drop]
    · rename_i hx
      have hx' : hasB o R[q + 1] = false:=by simpa using hx
      rw [hx'] at hft
      simp only [Bool.false_eq_true,if_false,List.append_nil] at hft
      refine ⟨rfl,(k,q + 1,R),⟨by dsimp only;omega,g2,by dsimp only;omega,hft,?_⟩,by dsimp only;omega,⟨rfl,rfl,rfl,rfl,trivial⟩,rfl⟩
      dsimp only
      rw [← List.drop_drop,g5,List.drop_drop]
  · have hend : q + 1 = l.length:=by omega
    rw [hend,List.take_length] at g4
    have hkl : k ≤ R.length:=by omega
    have hlen : (l.filter (hasB o)).length = k:=by rw [g4,List.length_take];omega
    have hcl:=row_len (l:=R) (f:=dC) (k:=9) dC_len sp
    repeat' first
 | (refine pS (S_clear (k:=9) rfl hr2 rfl (by decide) ?_) ?_;focus (rw [hcl];have:=Nat.mul_le_mul_right 9 hkl;omega))
 | (apply p1 (hd:=rfl);case hop=>first|(apply D_move;rfl)|(apply D_assign;rfl)|(apply D_slRh;rfl;rfl;all_goals first|omega|((repeat rw [w64 _ (by omega) (by omega)]);omega)|decide))
 | refine W_seq ?_
 | refine W_region ?_
 | refine WL_nil ?_
 | refine tn ?_
 | (refine W_ret ?_)
    refine retK1 (.inl rfl) rfl rfl (ResO.tmp rfl) ⟨?_,?_,?_⟩
    rotate_left 1
    · rw [hlen];rfl
    rw [List.set_set]
    refine congrArg (fun x=>h.set r (AObj.cells x)) ?_
    rw [List.append_assoc]
    refine congrArg (fun x : List AV=>x ++ _) ?_
    show ((R.map dC).flatten ++ sp).take (0 + k * 9) = _
    rw [Nat.zero_add,row_take dC_len sp k hkl,g4]
theorem dC_row {l : List Dat} : ∀ e,e ∈ l.map dC → e.length = 9:=fun e he=>by obtain ⟨a,_,rfl⟩:=List.mem_map.1 he;rfl
theorem sortD0_pc [GlobF Try.prog] (o : Int) : PC Try.prog 125 [.sl none 9 [],.fn (.func 126) [] [.ep [.sc (.int .i64 o)]]] (.tu []):=sort_none_pc Try.laysSD 9 _
set_option maxHeartbeats 4000000 in
theorem cloneD0_pc [GlobF Try.prog] : PC Try.prog 123 [.sl none 9 []] (.sl none 9 []):=by
  refine PC.of_body Try.func123 Try.ntmps123 rfl rfl rfl ?_
  repeat' first
 | (refine m_slnil rfl rfl ?_;rintro b hb)
 | refine m_lit (d:=5) rfl rfl rfl rfl rfl rfl ?_
 | (apply p1 (hd:=rfl);case hop=>first|(apply D_move;rfl)|(apply D_assign;rfl))
 | refine W_seq ?_
 | refine W_region ?_
 | (refine idC ?_;refine cs rfl (fun _=>?_) (fun _=>?_))
 | refine WL_nil ?_
 | refine tn ?_
 | refine tr ?_
 | refine W_skip ?_
 | refine W_ret ?_
 | (refine idR ?_;refine ret1 rfl rfl rfl ?_)
 | (refine idAp ?_;refine m_app rfl rfl (by first|rfl|assumption|exact get_set (by assumption)|exact get_set (get_set (by assumption))|exact get_set (get_set (get_set (by assumption)))|((repeat first|assumption|exact get_last|(refine get_last2 ?_;focus (simp;done))|apply get_set|apply get_app|(apply get_ne;focus omega));done)) ?_ rfl rfl ?_ ?_ rfl ?_;(first|rfl|focus (simp only [List.length_map,List.length_append,List.length_cons,List.length_nil];omega)|focus (simp;done)|focus (simp;omega));(first|focus (simp only [List.length_map,List.length_append,List.length_cons,List.length_nil];omega)|focus (simp;done)|focus (simp;omega));(first|focus (simp only [List.length_map,List.length_append,List.length_cons,List.length_nil];omega)|focus (simp;done)|focus (simp;omega)))
  all_goals first
    | exact Le.nil rfl
    | exact Le.tokq rfl
set_option maxHeartbeats 4000000 in
theorem indexD0_pc [GlobF Try.prog] (F : AV) : PC Try.prog 121 [.sl none 9 [],F] (.sc (.int .i64 (-1))):=by
  refine PC.of_body Try.func121 Try.ntmps121 rfl rfl rfl ?_
  repeat' first
 | (apply p1 (hd:=rfl);case hop=>first|(apply D_move;rfl)|(apply D_assign;rfl)|(apply D_len_sl;rfl))
 | refine W_seq ?_
 | refine W_region ?_
 | refine WL_nil ?_
 | refine tn ?_
 | (refine W_block ?_)
  refine W_rounds 1 ?_
  repeat' first
 | (refine cs rfl ?_ (fun _=>?_);focus (intro h;exfalso;revert h;decide))
 | (apply p1 (hd:=rfl);case hop=>first|(apply D_assign;rfl)|(apply D_int;rfl;rfl;rfl))
 | refine W_seq ?_
 | refine W_region ?_
 | refine WL_nil ?_
 | refine tn ?_
 | refine te ?_
 | (refine idB ?_;refine bh rfl ?_)
 | refine W_exit ?_
 | refine W_ret ?_
 | (refine idR ?_;refine ret1 rfl rfl rfl ?_)
 | (refine Le.int ?_)
  all_goals rfl
set_option maxHeartbeats 4000000 in
theorem deleteD0_pc [GlobF Try.prog] (o : Int) : PC Try.prog 122 [.sl none 9 [],.fn (.func 124) [] [.ep [.sc (.int .i64 o)]]] (.sl none 9 []):=by
  refine PC.of_body Try.func122 Try.ntmps122 rfl rfl rfl ?_
  repeat' first
 | (apply p1 (hd:=rfl);case hop=>first|(apply D_move;rfl)|(apply D_assign;rfl)|(apply D_pc (indexD0_pc (.fn (.func 124) [] [.ep [.sc (.int .i64 o)]]));rfl;exact .same rfl (.cons rfl (Le.of_eq rfl) .nil))|(apply D_int;rfl;rfl;rfl))
 | refine W_seq ?_
 | refine W_region ?_
 | (refine idC ?_;refine cs rfl (fun _=>?_) (fun _=>?_))
 | refine WL_nil ?_
 | refine tn ?_
 | refine tr ?_
 | refine W_skip ?_
 | refine W_block ?_
 | refine W_ret ?_
 | (refine idR ?_;refine ret1 rfl rfl rfl ?_)
  all_goals first
    | exact Le.of_eq rfl
    | (exfalso;rename_i hx;exact absurd hx (by simp))
set_option maxHeartbeats 4000000 in
theorem compactD0_pc [GlobF Try.prog] : PC Try.prog 128 [.sl none 9 []] (.sl none 9 []):=by
  refine PC.of_body Try.func128 Try.ntmps128 rfl rfl rfl ?_
  repeat' first
 | (apply p1 (hd:=rfl);case hop=>first|(apply D_move;rfl)|(apply D_assign;rfl)|(apply D_int;rfl;rfl;rfl)|(apply D_len_sl;rfl))
 | refine W_seq ?_
 | refine W_region ?_
 | (refine idC ?_;refine cs rfl (fun _=>?_) (fun _=>?_))
 | refine WL_nil ?_
 | refine tn ?_
 | refine tr ?_
 | refine W_skip ?_
 | refine W_block ?_
 | refine W_ret ?_
 | (refine idR ?_;refine ret1 rfl rfl rfl ?_)
  all_goals first
    | exact Le.of_eq rfl
    | (exfalso;rename_i hx;exact absurd hx (by decide))
    | skip
theorem sortC_nil {α : Type} (c : α → α → Int) : sortC c [] = []:=List.length_eq_zero_iff.1 (Nat.le_zero.1 (sortC_len c []))
set_option maxHeartbeats 4000000 in
theorem dsort_pc [GlobF Try.prog] (o : Int) (l : List Dat) (hl : l.length < 1759218604500) : PC Try.prog 90 [.sc (.int .i64 o),.sl none 9 (l.map dC)] (.sl none 9 ((dsortL o l).map dC)):=by
  by_cases ho : 1 ≤ o ∧ o ≤ 4
  rotate_left 1
  · rw [dsortL,if_neg ho]
    refine PC.of_body Try.func90 Try.ntmps90 rfl rfl rfl ?_
    repeat' first
 | (apply p1 (hd:=rfl);case hop=>first|(apply D_move;rfl)|(apply D_assign;rfl)|(apply D_pc (is_pc o);rfl;exact .same rfl .nil)|(apply D_load1;rfl)|(apply D_not;rfl)|(apply D_box;rfl;rfl))
 | refine W_seq ?_
 | refine W_region ?_
 | (refine idC ?_;refine cs rfl (fun _=>?_) (fun _=>?_))
 | refine WL_nil ?_
 | refine tn ?_
 | refine tr ?_
 | refine W_skip ?_
 | refine W_ret ?_
 | (refine idR ?_;refine ret1 rfl rfl rfl ?_)
    all_goals first
      | exact Le.nil rfl
      | (exfalso;apply ho;assumption)
      | (exfalso;rename_i hx;exact ho (by simpa using hx))
  rw [dsortL,if_pos ho]
  rcases Nat.eq_zero_or_pos l.length with h0|h0
  · have e : l = []:=List.length_eq_zero_iff.1 h0
    subst e
    rw [show ([] : List Dat).filter (hasB o) = [] from rfl,sortC_nil]
    refine PC.of_body Try.func90 Try.ntmps90 rfl rfl rfl ?_
    repeat' first
 | (apply p1 (hd:=rfl);case hop=>first|(apply D_move;rfl)|(apply D_assign;rfl)|(apply D_pc (is_pc o);rfl;exact .same rfl .nil)|(apply D_pc cloneD0_pc;rfl;exact .same rfl .nil)|(apply D_pc (deleteD0_pc o);rfl;exact .same rfl (.cons rfl (Le.of_eq rfl) .nil))|(apply D_pc (sortD0_pc o);rfl;exact .same rfl (.cons rfl (Le.of_eq rfl) .nil))|(apply D_pc compactD0_pc;rfl;exact .same rfl .nil)|(apply D_load1;rfl)|(apply D_not;rfl)|(apply D_box;rfl;rfl)|exact D_mkfn rfl)
 | refine W_seq ?_
 | refine W_region ?_
 | (refine idC ?_;refine cs rfl (fun _=>?_) (fun _=>?_))
 | refine WL_nil ?_
 | refine tn ?_
 | refine tr ?_
 | refine W_skip ?_
 | refine W_ret ?_
 | (refine idR ?_;refine ret1 rfl rfl rfl ?_)
    all_goals first
      | exact Le.of_eq rfl
      | (exfalso;rename_i hx;exact hx ho)
  · have hfl : (l.filter (hasB o)).length ≤ l.length:=List.length_filter_le _ _
    have hms : ((l.filter (hasB o)).mergeSort fun x y=>!(ltOf (cmpD o) y x)).length = (l.filter (hasB o)).length:=List.length_mergeSort _
    refine PC.of_body Try.func90 Try.ntmps90 rfl rfl rfl ?_
    repeat' first
 | (apply p1 (hd:=rfl);case hop=>first|(apply D_move;rfl)|(apply D_assign;rfl)|(apply D_pc (is_pc o);rfl;exact .same rfl .nil)|(apply D_load1;rfl)|(apply D_not;rfl)|(apply D_box;rfl;rfl)|exact D_mkfn rfl)
 | refine W_seq ?_
 | refine W_region ?_
 | (refine idC ?_;refine cs rfl (fun _=>?_) (fun _=>?_))
 | refine WL_nil ?_
 | refine tn ?_
 | refine tr ?_
 | refine W_skip ?_
 | refine W_ret ?_
 | (refine idR ?_;refine ret1 rfl rfl rfl ?_)
 | (refine m_call (d:=10) (cloneD_ac l h0 hl) rfl rfl rfl ?_;rintro _ _ ⟨sp,rfl,rfl⟩)
 | (refine m_call (d:=12) (deleteD_ac (l:=l) o rfl (by omega)) rfl rfl rfl ?_;rintro _ _ ⟨sp,rfl,rfl⟩)
 | (refine m_call (d:=15) (sortD_ac' (l:=l.filter (hasB o)) o ho rfl rfl (by omega)) rfl rfl rfl ?_;rintro _ _ ⟨rfl,rfl⟩)
 | (refine m_call (d:=17) (compactD_ac' (l:=(l.filter (hasB o)).mergeSort fun x y=>!(ltOf (cmpD o) y x)) hms rfl (by omega)) rfl rfl rfl ?_;rintro _ _ ⟨sp',rfl,rfl⟩;refine WL_frz 17 1 9 (els:=(compL ((l.filter (hasB o)).mergeSort fun x y=>!(ltOf (cmpD o) y x))).map dC) (sp:=sp') rfl rfl (by simp) dC_row ?_)
    · exfalso;rename_i hx;exact hx ho
    · rw [take_map_len];exact Le.of_eq rfl
noncomputable instance : DecidableEq Dat:=fun _ _=>Classical.propDecidable _
instance : Inhabited Val:=⟨val0⟩
instance : Inhabited Dat:=⟨dat0⟩
instance (p : Prop) : BP (dP p) p (¬ p):=⟨fun h=>by rwa [dP_t] at h,fun h=>by rwa [dP_f] at h⟩
instance (s : List UInt8) : BP (wordB s) (WordP s) (¬ WordP s):=⟨fun h=>by unfold wordB at h;simpa using h,fun h=>by unfold wordB at h;simpa using h⟩
instance (v : Val) : BP (mayB v) (MayP v) (¬ MayP v):=⟨fun h=>by unfold mayB at h;rwa [dP_t] at h,fun h=>by unfold mayB at h;rwa [dP_f] at h⟩
instance : Xt Try.prog 173 Extern.BytealgCompare.compare:=⟨run_callFunc_extern Try.func173 (by kernel_rfl) (by kernel_rfl) (by kernel_rfl) (by kernel_rfl)⟩
instance : Inhabited Sp:=⟨⟨0,0⟩⟩
instance : Inhabited Dat:=⟨dat0⟩
instance : Inhabited Val:=⟨val0⟩
instance : Inhabited Dat:=⟨dat0⟩
instance : Inhabited Val:=⟨val0⟩
instance : Inhabited Dat:=⟨dat0⟩
instance (p : Prop) : BP (dP p) p (¬ p):=⟨fun h=>by rwa [dP_t] at h,fun h=>by rwa [dP_f] at h⟩
instance (s : List UInt8) : BP (wordB s) (WordP s) (¬ WordP s):=⟨fun h=>by unfold wordB at h;simpa using h,fun h=>by unfold wordB at h;simpa using h⟩
instance (v : Val) : BP (mayB v) (MayP v) (¬ MayP v):=⟨fun h=>by unfold mayB at h;rwa [dP_t] at h,fun h=>by unfold mayB at h;rwa [dP_f] at h⟩
instance : Xt Try.prog 173 Extern.BytealgCompare.compare:=⟨run_callFunc_extern Try.func173 (by kernel_rfl) (by kernel_rfl) (by kernel_rfl) (by kernel_rfl)⟩
instance : Inhabited Sp:=⟨⟨0,0⟩⟩
instance : Inhabited Dat:=⟨dat0⟩
instance : Inhabited Val:=⟨val0⟩
instance : Inhabited Dat:=⟨dat0⟩
instance : Inhabited Val:=⟨val0⟩
instance : Inhabited Dat:=⟨dat0⟩
def allD (l : List Dat) : Prop:=∀ d,d ∈ l → dmayP d
theorem allD_iff {l : List Dat} : allD l ↔ ∀ (j : Nat) (h : j < l.length),dmayP l[j] :=
  ⟨fun h j hj=>h _ (List.getElem_mem hj),fun h d hd=>by obtain ⟨j,hj,rfl⟩:=List.getElem_of_mem hd;exact h j hj⟩
set_option maxHeartbeats 4000000 in
theorem sbad_pc [GlobF Try.prog] (d : Dat) (hs : d.v.s.length < 9223372036854775808) : PC Try.prog 89 [eD d] (.sc (.bool (!dP (dmayP d)))):=by
  have hc:=dcheck_pc d hs
  by_cases hm : dmayP d
  · rw [← dP_T hm,if_pos rfl] at hc
    rw [← dP_T hm]
    refine PC.of_body Try.func89 Try.ntmps89 rfl rfl rfl ?_
    repeat' first
 | (apply p1 (hd:=rfl);case hop=>first|(apply D_assign;rfl)|(apply D_pc hc;rfl;exact .same rfl .nil)|(apply D_int;rfl;rfl;rfl)|(apply D_loadW;rfl;rfl)|(apply D_box;rfl;rfl))
 | refine W_seq ?_
 | refine W_region ?_
 | refine WL_nil ?_
 | refine tn ?_
 | refine W_ret ?_
 | (refine idR ?_;refine ret1 rfl rfl rfl ?_)
 | (refine Le.bool ?_)
    all_goals first|(show bNot (iEq 0 0) = _;rw [(iEq_t _ _).mpr rfl];simp [bNot])|skip
  · rw [← dP_F hm,if_neg (by decide)] at hc
    rw [← dP_F hm]
    refine PC.of_body Try.func89 Try.ntmps89 rfl rfl rfl ?_
    repeat' first
 | (apply p1 (hd:=rfl);case hop=>first|(apply D_assign;rfl)|(apply D_pc hc;rfl;exact .same rfl .nil)|(apply D_int;rfl;rfl;rfl)|(apply D_loadW;rfl;rfl)|(apply D_box;rfl;rfl))
 | refine W_seq ?_
 | refine W_region ?_
 | refine WL_nil ?_
 | refine tn ?_
 | refine W_ret ?_
 | (refine idR ?_;refine ret1 rfl rfl rfl ?_)
 | (refine Le.bool ?_)
    all_goals first|(show bNot (iEq 40 0) = _;rw [(iEq_f _ _).mpr (by decide)];simp [bNot])|skip
set_option maxHeartbeats 8000000 in
theorem sidx_pc [GlobF Try.prog] (l : List Dat) (hl : l.length < 4611686018427387904) (hs : ∀ d,d ∈ l → d.v.s.length < 9223372036854775808) : ∃ r : Int,(0 ≤ r ↔ ¬ allD l) ∧ PC Try.prog 121 [sl9 l,.sc (.func (.func 89) #[] #[])] (.sc (.int .i64 r)):=by
  obtain ⟨n,hn,hmin⟩:=least (fun n=>n = l.length ∨ ∃ h : n < l.length,¬ dmayP l[n]) ⟨l.length,.inl rfl⟩
  have hnl : n ≤ l.length:=hmin _ (.inl rfl)
  have hz : ∀ (j : Nat) (h : j < l.length),j < n → dmayP l[j]:=fun j hj hjn=>Classical.byContradiction fun h=>absurd (hmin j (.inr ⟨hj,h⟩)) (by omega)
  have hbody : PC Try.prog 121 [sl9 l,.sc (.func (.func 89) #[] #[])] (.sc (.int .i64 (if n < l.length then (n : Int) else -1))):=by
    refine PC.of_body Try.func121 Try.ntmps121 rfl rfl rfl ?_
    repeat' first
 | (apply p1 (hd:=rfl);case hop=>first|(apply D_move;rfl)|(apply D_assign;rfl)|(apply D_lenM;rfl))
 | refine W_seq ?_
 | refine W_region ?_
 | refine WL_nil ?_
 | refine tn ?_
 | (refine W_block ?_)
    refine W_loopL (X:=Nat) (fun i=>[(0,sl9 l),(1,.sc (.func (.func 89) #[] #[])),(7,.sc (.int .i64 (l.length : Int))),(8,.sc (.int .i64 (i : Int)))]) (fun _=>[])
      (fun i=>i ≤ n) (fun i=>n - i) 0 (Nat.zero_le _) ⟨rfl,rfl,rfl,rfl,trivial⟩ rfl ?_
    intro i hi
    by_cases hil : i < l.length
    · have hc:=sbad_pc (l[i]'hil) (hs _ (List.getElem_mem _))
      by_cases hin : i < n
      · rw [← dP_T (hz i hil hin)] at hc
        repeat' first
 | (apply p1 (hd:=rfl);case hop=>first|(apply D_move;rfl)|(apply D_assign;rfl)|(apply D_pc hc;rfl;exact .same rfl .nil)|(apply D_int;rfl;rfl;rfl)|(apply D_loadW;rfl;rfl)|(apply D_idxAn;rfl;rfl;(first|omega|(simp;done))))
 | refine W_seq ?_
 | refine W_region ?_
 | (refine idC ?_;first|refine c0 rfl ?_|refine cs rfl (fun _=>?_) (fun _=>?_))
 | refine WL_nil ?_
 | refine tn ?_
 | refine bn ?_
 | refine te ?_
 | (refine idB ?_;refine bh rfl ?_)
 | refine W_skip ?_
 | refine W_block ?_
 | refine W_exit ?_
 | refine W_ret ?_
 | (refine idR ?_;refine ret1 rfl rfl rfl ?_)
 | (refine Le.int ?_)
        all_goals first
          | contradiction
          | (exfalso;omega)
          | exact ⟨rfl,i + 1,by omega,by omega,⟨rfl,rfl,rfl,ieq (wsucc i (by omega)),trivial⟩,rfl⟩
          | skip
      · have e : i = n:=by omega
        subst e
        have hb : ¬ dmayP (l[i]'hil):=by
          rcases hn with e | ⟨h,h2⟩
          · omega
          · exact h2
        rw [← dP_F hb] at hc
        rw [if_pos hil]
        repeat' first
 | (apply p1 (hd:=rfl);case hop=>first|(apply D_move;rfl)|(apply D_assign;rfl)|(apply D_pc hc;rfl;exact .same rfl .nil)|(apply D_int;rfl;rfl;rfl)|(apply D_loadW;rfl;rfl)|(apply D_idxAn;rfl;rfl;(first|omega|(simp;done))))
 | refine W_seq ?_
 | refine W_region ?_
 | (refine idC ?_;first|refine c1 rfl ?_|refine cs rfl (fun _=>?_) (fun _=>?_))
 | refine WL_nil ?_
 | refine tn ?_
 | refine tr ?_
 | refine br ?_
 | refine te ?_
 | (refine idB ?_;refine bh rfl ?_)
 | refine W_skip ?_
 | refine W_block ?_
 | refine W_exit ?_
 | refine W_ret ?_
 | (refine idR ?_;refine ret1 rfl rfl rfl ?_)
 | (refine Le.int ?_)
        all_goals first
          | contradiction
          | (exfalso;omega)
          | rfl
          | skip
    · rw [if_neg (by omega)]
      repeat' first
 | (apply p1 (hd:=rfl);case hop=>first|(apply D_move;rfl)|(apply D_assign;rfl)|(apply D_int;rfl;rfl;rfl)|(apply D_loadW;rfl;rfl)|(apply D_idxAn;rfl;rfl;(first|omega|(simp;done))))
 | refine W_seq ?_
 | refine W_region ?_
 | (refine idC ?_;refine cs rfl (fun _=>?_) (fun _=>?_))
 | refine WL_nil ?_
 | refine tn ?_
 | refine te ?_
 | (refine idB ?_;refine bh rfl ?_)
 | refine W_skip ?_
 | refine W_block ?_
 | refine W_exit ?_
 | refine W_ret ?_
 | (refine idR ?_;refine ret1 rfl rfl rfl ?_)
 | (refine Le.int ?_)
      all_goals first
        | contradiction
        | (exfalso;omega)
        | rfl
        | skip
  refine ⟨_,?_,hbody⟩
  constructor
  · intro h ha
    split at h
    · rename_i hlt
      rcases hn with e | ⟨h1,h2⟩
      · omega
      · exact h2 (ha _ (List.getElem_mem h1))
    · omega
  · intro h
    split
    · omega
    · exact absurd (allD_iff.2 fun j hj=>hz j hj (by omega)) h
set_option maxHeartbeats 4000000 in
theorem scon_pc [GlobF Try.prog] (l : List Dat) (hl : l.length < 4611686018427387904) (hs : ∀ d,d ∈ l → d.v.s.length < 9223372036854775808) : PC Try.prog 88 [sl9 l,.sc (.func (.func 89) #[] #[])] (.sc (.bool (!dP (allD l)))):=by
  obtain ⟨r,hr,hi⟩:=sidx_pc l hl hs
  have hres : iLe 0 r = !dP (allD l):=by
    by_cases ha : allD l
    · rw [← dP_T ha,(iLe_f _ _).mpr (by have:=mt hr.1 (fun h=>h ha);omega)];rfl
    · rw [← dP_F ha,(iLe_t _ _).mpr (hr.2 ha)];rfl
  refine PC.of_body Try.func88 Try.ntmps88 rfl rfl rfl ?_
  repeat' first
 | (apply p1 (hd:=rfl);case hop=>first|(apply D_move;rfl)|(apply D_assign;rfl)|(apply D_pc hi;rfl;exact .same rfl (.same rfl .nil))|(apply D_int;rfl;rfl;rfl))
 | refine W_seq ?_
 | refine W_region ?_
 | refine WL_nil ?_
 | refine tn ?_
 | refine W_ret ?_
 | (refine idR ?_;refine ret1 rfl rfl rfl ?_)
 | (refine Le.bool ?_)
  all_goals first|exact hres|skip
noncomputable def sortS (o : Int) (l : List Dat) : List Dat:=if dP (allD l) then dsortL o l else []
set_option maxHeartbeats 4000000 in
theorem ssorted_pc [GlobF Try.prog] (o : Int) (l : List Dat) (hl : l.length < 1759218604500) (hs : ∀ d,d ∈ l → d.v.s.length < 9223372036854775808) : PC Try.prog 50 [.sc (.int .i64 o),sl9 l] (.tu [sl9 (sortS o l),.sc (.int .i64 (if dP (allD l) then 0 else 40))]):=by
  have hc:=scon_pc l (by omega) hs
  have hd:=dsort_pc o l hl
  unfold sortS
  generalize dP (allD l) = b at *
  cases b
  · rw [if_neg (by decide),if_neg (by decide)]
    refine PC.of_body Try.func50 Try.ntmps50 rfl rfl rfl ?_
    repeat' first
 | (apply p1 (hd:=rfl);case hop=>first|(apply D_move;rfl)|(apply D_assign;rfl)|(apply D_pc hc;rfl;exact .same rfl (.same rfl .nil)))
 | refine W_seq ?_
 | refine W_region ?_
 | (refine idC ?_;refine c1 rfl ?_)
 | refine WL_nil ?_
 | refine tn ?_
 | refine tr ?_
 | refine W_ret ?_
 | (refine idR ?_;refine ret2 rfl rfl rfl rfl ?_ ?_)
 | (refine Le.int ?_)
    all_goals first|contradiction|exact Le.nil rfl|rfl|skip
  · rw [if_pos rfl,if_pos rfl]
    refine PC.of_body Try.func50 Try.ntmps50 rfl rfl rfl ?_
    repeat' first
 | (apply p1 (hd:=rfl);case hop=>first|(apply D_move;rfl)|(apply D_assign;rfl)|(apply D_pc hc;rfl;exact .same rfl (.same rfl .nil))|(apply D_pc hd;rfl;exact .same rfl (.same rfl .nil)))
 | refine W_seq ?_
 | refine W_region ?_
 | (refine idC ?_;refine c0 rfl ?_)
 | refine WL_nil ?_
 | refine tn ?_
 | refine W_skip ?_
 | refine W_ret ?_
 | (refine idR ?_;refine ret2 rfl rfl rfl rfl ?_ ?_)
 | (refine Le.int ?_)
    all_goals first|contradiction|exact Le.of_eq rfl|rfl|skip
set_option maxHeartbeats 8000000 in
theorem rall_pc [GlobF Try.prog] (l : List Dat) (hl : l.length ≤ 1048576) (hs : ∀ d,d ∈ l → d.v.s.length < 9223372036854775808) : PC Try.prog 54 [sl9 l] (.tu [sl9 (sortS 1 l),.sc (.int .i64 (if dP (allD l) then 0 else 40))]):=by
  have hsr:=dsort1_pc 1 l (by omega) hs
  have hE : sortS 1 l = if dP (allD l) then dsortL 1 l else []:=rfl
  rw [hE]
  refine PC.of_body Try.func54 Try.ntmps54 rfl rfl rfl ?_
  repeat' first
 | (apply p1 (hd:=rfl);case hop=>first|(apply D_assign;rfl))
 | refine W_seq ?_
 | refine W_region ?_
 | refine WL_nil ?_
 | refine tn ?_
 | (refine W_block ?_)
  refine W_loopL (X:=Nat) (fun i=>[(0,sl9 l),(4,.sc (.int .i64 (i : Int)))]) (fun _=>[])
    (fun i=>i ≤ l.length ∧ ∀ (j : Nat) (h : j < l.length),j < i → dmayP l[j]) (fun i=>l.length - i) 0 ⟨Nat.zero_le _,fun j h hj=>absurd hj (Nat.not_lt_zero j)⟩ ⟨rfl,rfl,trivial⟩ rfl ?_
  rintro i ⟨hi,hz⟩
  by_cases hil : i < l.length
  · have hm:=dmay1_pc (l[i]'hil) (hs _ (List.getElem_mem _))
    by_cases hc : dmayP (l[i]'hil)
    · rw [← dP_T hc] at hm
      repeat' first
 | (apply p1 (hd:=rfl);case hop=>first|(apply D_move;rfl)|(apply D_assign;rfl)|(apply D_pc hm;rfl;exact .same rfl .nil)|(apply D_int;rfl;rfl;rfl)|(apply D_lenM;rfl)|(apply D_not;rfl)|(apply D_loadW;rfl;rfl)|(apply D_idxAn;rfl;rfl;(first|omega|(simp;done))))
 | refine W_seq ?_
 | refine W_region ?_
 | (refine idC ?_;refine cs rfl (fun _=>?_) (fun _=>?_))
 | refine WL_nil ?_
 | refine tn ?_
 | refine tr ?_
 | refine br ?_
 | refine bn ?_
 | refine te ?_
 | (refine idB ?_;refine bh rfl ?_)
 | refine W_skip ?_
 | refine W_block ?_
 | refine W_exit ?_
 | refine W_ret ?_
 | (refine idR ?_;refine ret2 rfl rfl rfl rfl ?_ ?_)
 | (refine Le.int ?_)
      all_goals first
        | contradiction
        | (exfalso;omega)
        | (refine ⟨rfl,i + 1,⟨by omega,fun j h hj=>?_⟩,by omega,⟨rfl,ieq (wsucc i (by omega)),trivial⟩,rfl⟩
           by_cases e : j = i
           · subst e;exact hc
           · exact hz j h (by omega))
        | skip
    · rw [← dP_F hc] at hm
      rw [← dP_F (fun h=>hc (h _ (List.getElem_mem _))),if_neg (by decide),if_neg (by decide)]
      repeat' first
 | (apply p1 (hd:=rfl);case hop=>first|(apply D_move;rfl)|(apply D_assign;rfl)|(apply D_pc hm;rfl;exact .same rfl .nil)|(apply D_int;rfl;rfl;rfl)|(apply D_lenM;rfl)|(apply D_not;rfl)|(apply D_loadW;rfl;rfl)|(apply D_idxAn;rfl;rfl;(first|omega|(simp;done))))
 | refine W_seq ?_
 | refine W_region ?_
 | (refine idC ?_;refine cs rfl (fun _=>?_) (fun _=>?_))
 | refine WL_nil ?_
 | refine tn ?_
 | refine tr ?_
 | refine br ?_
 | refine bn ?_
 | refine te ?_
 | (refine idB ?_;refine bh rfl ?_)
 | refine W_skip ?_
 | refine W_block ?_
 | refine W_exit ?_
 | refine W_ret ?_
 | (refine idR ?_;refine ret2 rfl rfl rfl rfl ?_ ?_)
 | (refine Le.int ?_)
      all_goals first
        | contradiction
        | (exfalso;omega)
        | exact Le.nil rfl
        | rfl
        | skip
  · rw [← dP_T (allD_iff.2 fun j h=>hz j h (by omega)),if_pos rfl,if_pos rfl]
    repeat' first
 | (apply p1 (hd:=rfl);case hop=>first|(apply D_move;rfl)|(apply D_assign;rfl)|(apply D_pc hsr;rfl;exact .same rfl (.same rfl .nil))|(apply D_int;rfl;rfl;rfl)|(apply D_lenM;rfl)|(apply D_loadW;rfl;rfl)|(apply D_idxAn;rfl;rfl;(first|omega|(simp;done))))
 | refine W_seq ?_
 | refine W_region ?_
 | (refine idC ?_;refine cs rfl (fun _=>?_) (fun _=>?_))
 | refine WL_nil ?_
 | refine tn ?_
 | refine te ?_
 | (refine idB ?_;refine bh rfl ?_)
 | refine W_skip ?_
 | refine W_block ?_
 | refine W_exit ?_
 | refine W_ret ?_
 | (refine idR ?_;refine ret2 rfl rfl rfl rfl ?_ ?_)
 | (refine Le.int ?_)
    all_goals first
      | contradiction
      | (exfalso;omega)
      | exact Le.of_eq rfl
      | rfl
      | skip
set_option maxHeartbeats 4000000 in
theorem great29_pc [GlobF Try.prog] (l : List Dat) (hl : l.length < 9223372036854775808) : PC Try.prog 20 [sl9 l] (.sc (.bool (dP (200 < l.length ∨ 4000 < grS 0 l)))):=by
  by_cases h : 200 < l.length
  · rw [← dP_T (.inl h)]
    have g : Value.bool (iLt 200 (l.length : Int)) = .bool true:=by rw [(iLt_t _ _).mpr (by omega)]
    refine PC.of_body Try.func20 Try.ntmps20 rfl rfl rfl ?_
    repeat' first
 | (apply p1 (hd:=rfl);case hop=>first|(apply D_move;rfl)|(apply D_assign;rfl)|exact D_sc (D_int rfl rfl rfl) g|(apply D_pickT;rfl;rfl)|(apply D_lenM;rfl))
 | refine W_seq ?_
 | refine W_region ?_
 | refine WL_nil ?_
 | (refine idG ?_;refine g0f rfl rfl rfl ?_)
 | refine tn ?_
 | refine W_ret ?_
 | (refine idR ?_;refine ret1 rfl rfl rfl ?_)
 | (refine Le.bool ?_)
    all_goals first|rfl|contradiction|skip
  · have g : Value.bool (iLt 200 (l.length : Int)) = .bool false:=by rw [(iLt_f _ _).mpr (by omega)]
    have hg:=great_pc l (by omega)
    by_cases h2 : 4000 < grS 0 l
    · rw [← dP_T (.inr h2)]
      rw [if_pos h2] at hg
      have g2 : iLt 0 1 = true:=(iLt_t _ _).mpr (by decide)
      refine PC.of_body Try.func20 Try.ntmps20 rfl rfl rfl ?_
      repeat' first
 | (apply p1 (hd:=rfl);case hop=>first|(apply D_move;rfl)|(apply D_assign;rfl)|exact D_sc (D_int rfl rfl rfl) g|(apply D_pc hg;rfl;exact .same rfl .nil)|(apply D_pickF;rfl;rfl)|(apply D_int;rfl;rfl;rfl)|(apply D_lenM;rfl))
 | refine W_seq ?_
 | refine W_region ?_
 | refine WL_nil ?_
 | (refine idG ?_;refine gr rfl rfl ?_)
 | refine tn ?_
 | refine W_ret ?_
 | (refine idR ?_;refine ret1 rfl rfl rfl ?_)
 | (refine Le.bool ?_)
      all_goals first|rfl|contradiction|exact g2|skip
    · rw [← dP_F (fun e=>e.elim h h2)]
      rw [if_neg h2] at hg
      have g2 : iLt 0 0 = false:=(iLt_f _ _).mpr (by decide)
      refine PC.of_body Try.func20 Try.ntmps20 rfl rfl rfl ?_
      repeat' first
 | (apply p1 (hd:=rfl);case hop=>first|(apply D_move;rfl)|(apply D_assign;rfl)|exact D_sc (D_int rfl rfl rfl) g|(apply D_pc hg;rfl;exact .same rfl .nil)|(apply D_pickF;rfl;rfl)|(apply D_int;rfl;rfl;rfl)|(apply D_lenM;rfl))
 | refine W_seq ?_
 | refine W_region ?_
 | refine WL_nil ?_
 | (refine idG ?_;refine gr rfl rfl ?_)
 | refine tn ?_
 | refine W_ret ?_
 | (refine idR ?_;refine ret1 rfl rfl rfl ?_)
 | (refine Le.bool ?_)
      all_goals first|rfl|contradiction|exact g2|skip
end Go.Proofs

namespace Go.AL
open Go.Proofs (Enters)
section
variable {P : Program} [GlobF P]
theorem RH.into {B : Base P} {G : Gh} {h : List AObj} {w : World} (hr : RH B G h w) : ∃ B' : Base P,B'.w = w ∧ B'.imm = G.imm ∧ RH B' (Gh.of G.imm) [] w :=
  ⟨⟨w,G.imm,Gh.of G.imm,fun b o v e=>⟨hr.globW.f b o v e,hr.lt (hr.globW.f b o v e)⟩,hr.globW.o⟩,rfl,rfl,
    .refl _,rfl,rfl,rfl,Nat.le_refl _,Nat.le_refl _,fun _ _=>rfl,hr.imm,fun _ _ _=>rfl,fun r o h=>by simp at h,fun r _ o _ _ h=>by simp at h,fun _ _=>⟨rfl,fun _=>rfl⟩⟩
theorem PurL.conc {xs : List AV} (hp : PurL xs) {G : Gh} {vs : List Value} (h : ConcL G vs xs) : ConcL (Gh.of G.imm) vs xs :=
  ⟨h.1,fun i v x hv hx=>hp.h x (List.mem_of_getElem? hx) G v (h.2 i v x hv hx)⟩
theorem PurLL.flat {els : List (List AV)} (hp : PurLL els) : PurL els.flatten:=⟨fun x hx=>by
  obtain ⟨e,he,hx'⟩:=List.mem_flatten.1 hx
  exact (hp.h e he).h x hx'⟩
end
end Go.AL

namespace Go.AL
section
variable {P : Program} [GlobF P]
theorem PC.row {f : FuncId} {k e r n : Nat} {els : List (List AV)} {xs : List AV} {v : AV} (hpc : PC P f (.sl none k els :: xs) v) (hx : PurL xs) (hels : PurL els.flatten) (hvp : ∀ G G' u,Conc G u v → Conc G' u v) {h : List AObj} (hr : h[r]? = some (.row k e els)) (hn : n = els.length) :
    AC P f (rowA r n :: xs) h (fun v' h'=>v' = v ∧ h' = h):=by
  refine ⟨hpc.1,fun B G w vs hR hc=>?_⟩
  obtain ⟨v1,vs1,rfl,c1,hc1⟩:=hc.inv_cons
  obtain ⟨hk,hrow⟩:=row_inv hR hr hn c1
  have key : ∃ imm2,GlobW P w imm2 ∧ (∀ b o u,imm2 b o = some u → w.cell? ⟨b,o,none⟩ = some u) ∧ (Gh.of G.imm).le (Gh.of imm2) ∧ Conc (Gh.of imm2) v1 (.sl none k els):=by
    rcases hrow with ⟨rfl,rfl⟩ | ⟨g,cap,c,rfl,q2,q3,q4,q5,q6,q7,q8,q9⟩
    · exact ⟨G.imm,hR.globW,hR.imm,⟨fun _ _ _ e=>e,fun _ _ e=>e,fun _ _ _ e=>e⟩,.slnil (fun t e=>by cases e)⟩
    · let imm2 : Nat → Nat → Option Value:=fun b o=>if b = g then (c.take (els.length * k))[o]? else G.imm b o
      have hle : (Gh.of G.imm).le (Gh.of imm2):=⟨fun b o u hu=>by
        show (if b = g then (c.take (els.length * k))[o]? else G.imm b o) = some u
        rw [if_neg fun e=>by subst e;have:=q8 o;rw [show G.imm b o = some u from hu] at this;cases this];exact hu,fun _ _ e=>e,fun _ _ _ e=>e⟩
      refine ⟨imm2,⟨fun b o u hu=>hle.1 b o u (hR.globW.f b o u hu),fun b x hx=>hR.globW.o b x hx⟩,fun b o u hu=>?_,hle,?_⟩
      · replace hu : (if b = g then (c.take (els.length * k))[o]? else G.imm b o) = some u:=hu
        split at hu
        · next hb =>
          subst hb
          rw [List.getElem?_take] at hu
          split at hu
          · simp [World.cell?,q3,hu]
          · cases hu
        · exact hR.imm _ _ _ hu
      · refine sl_of_flat (vs:=c.take (els.length * k)) hk q4 ((hels.conc q7).mono hle) (fun j u hu=>?_) (fun t e=>by cases e)
        show (if g = g then (c.take (els.length * k))[0 + j]? else G.imm g (0 + j)) = some u
        rw [if_pos rfl,Nat.zero_add];exact hu
  obtain ⟨imm2,k1,k2,k3,k4⟩:=key
  refine (hpc.2 w imm2 (v1 :: vs1) k1 k2 (.cons k4 ((hx.conc hc1).mono k3))).mono ?_
  rintro e w' ⟨rv,imm',rfl,hg,h1,h2,hv⟩
  obtain ⟨m1,m2⟩:=hR.grown hg (imm':=G.imm) (fun _ _ _=>rfl) fun b o u hu=>by
    have:=hR.imm _ _ _ hu
    simp only [World.cell?,hg.out b (hR.lt hu)] at this ⊢
    exact this
  exact ⟨rv,_,h,v,rfl,m1,m2,hvp _ _ _ hv,rfl,rfl⟩
end
end Go.AL

namespace Go.Proofs
open Go.Shelf Go.RowKit Go.Lib
theorem run_copy_cellsK {P : Program} (k : Nat) (w : World) (dT sT ty elem : TypeId) (b o dLen dCap : Nat) (a : Addr) (sLen sCap m : Nat) (cs : List Value)
    (hu : P.underlying dT = some (.slice elem)) (hs : (P.info? elem).map (·.size) = some k) (hm : m = Nat.min sLen dLen) (hn : cs.length = k * m)
    (hsrc : ∀ j v,cs[j]? = some v → w.cell? (a.add j) = some v) (hc : ∀ j,j < cs.length → (w.cell? ⟨b,o + j,none⟩).isSome = true) (hf : ∀ j,j < cs.length → w.frozen? ⟨b,o + j,none⟩ = false) (h1 : ∀ v ∈ cs,v.oneCell' = true) :
    (Builtin.copy_ #[dT,sT] ty #[.slice (some ⟨b,o,none⟩) dLen dCap,.slice (some a) sLen sCap]).run P w = .ok (goInt m) (w.setCells b o cs):=by
  have hl:=run_loadCells_list (P:=P) w a cs hsrc
  have hst:=run_storeCells_cells (P:=P) b o cs 0 w (by simpa using hc) (by simpa using hf) h1
  cases hq : P.info? elem with
  | none=>simp [hq] at hs
  | some i =>
    have hi : i.size = k:=by simpa [hq] using hs
    have hn2 : m * k = cs.length:=by rw [hn,Nat.mul_comm]
    simp [Builtin.copy_,run_underlying hu,Builtin.lenOf,Builtin.firstCells,sizeOf,typeInfo,hq,hi,← hm,hn2,← hn,hl,hst]
set_option maxHeartbeats 4000000 in
set_option maxRecDepth 100000 in
theorem Try.insert_shift (b off n c i vb voff vc : Nat) (cs vs : List Value) (w : World) (hi : i < n) (hroom : n + 1 ≤ c) (hc63 : c ≤ 9223372036854775807) (hvb : vb ≠ b)
    (hcl : cs.length = 3 * n) (hvl : vs.length = 3)
    (hcs : ∀ j v,cs[j]? = some v → w.cell? ⟨b,off + j,none⟩ = some v) (hsp : ∀ j,j < 3 * (n + 1) → (w.cell? ⟨b,off + j,none⟩).isSome = true) (hfz : ∀ j,j < 3 * (n + 1) → w.frozen? ⟨b,off + j,none⟩ = false)
    (hvs : ∀ j v,vs[j]? = some v → w.cell? ⟨vb,voff + j,none⟩ = some v) (h1c : ∀ v ∈ cs,v.oneCell' = true) (h1v : ∀ v ∈ vs,v.oneCell' = true)
    (tA tB : TypeId) (kA kB : Nat) (hsa : w.shape? vb = some (tA,kA)) (hsb : w.shape? b = some (tB,kB)) (hkB : kB ≠ 0) (hfa : w.frozen? ⟨vb,voff,none⟩ = false) (hfe : w.frozen? ⟨vb,kA,none⟩ = false) :
    Calls Try.prog 53 #[.slice (some ⟨b,off,none⟩) n c,.int .i64 i,.slice (some ⟨vb,voff,none⟩) 1 vc] w fun e w' =>
      e = .returned (.slice (some ⟨b,off,none⟩) (n + 1) c) ∧ w' = (w.drew.setCells b (off + 3 * (i + 1)) (cs.drop (3 * i))).setCells b (off + 3 * i) vs:=by
  have hz2 : ¬ ((i : Int) = (n : Int)):=by omega
  have hov : ∀ o lb cb,(callFunc 91 #[.slice (some ⟨vb,voff,none⟩) 1 vc,.slice (some ⟨b,o,none⟩) lb cb]).run Try.prog w = .ok (.value (.bool false)) w:=fun o lb cb=>by
    rw [run_callFunc_extern Try.func91 (by kernel_rfl) (by kernel_rfl) (by kernel_rfl) (e:=Extern.SlicesOverlaps.overlaps #[57,57] #[4]) (by kernel_rfl),
      Lib.run_overlaps_apart w 57 4 73 Try.underlying57 3 Try.sizeOf73 ⟨vb,voff,none⟩ ⟨b,o,none⟩ 1 vc lb cb hvb tA tB kA kB hsa hsb hkB hfa hfe]
    rfl
  have hw1 : IntKind.i64.wrap ((i : Int) + 1) = (i : Int) + 1:=by rw [IntKind.wrap_i64];omega
  have hb1 : (0 : Int) ≤ (i : Int) + 1:=by omega
  have hin : i ≤ n:=by omega
  have htn : ((i : Int) + 1).toNat = i + 1:=by omega
  have hb2 : ¬ (c = i + 1):=by omega
  have hb3 : (i : Int) ≤ (n : Int) + 1:=by omega
  have hb4 : ¬ (c = i):=by omega
  have hsz : (Try.prog.info? 73).map (·.size) = some 3:=by kernel_rfl
  have hdl : (cs.drop (3 * i)).length = 3 * (n - i):=by rw [List.length_drop,hcl];omega
  have hcp1 : ∀ ty dc sc,(Builtin.copy_ #[57,57] ty #[.slice (some ⟨b,off + (i + 1) * 3,none⟩) (n - i) dc,.slice (some ⟨b,off + i * 3,none⟩) (n + 1 - i) sc]).run Try.prog w.drew = .ok (goInt (n - i : Nat)) (w.drew.setCells b (off + (i + 1) * 3) (cs.drop (3 * i))):=fun ty dc sc =>
    run_copy_cellsK 3 w.drew _ _ ty 73 b (off + (i + 1) * 3) (n - i) dc ⟨b,off + i * 3,none⟩ (n + 1 - i) sc (n - i) (cs.drop (3 * i)) Try.underlying57 hsz (by simp only [Nat.min_def];split <;> omega) hdl
      (fun j v hj=>by rw [Addr.add_lit,show off + i * 3 + j = off + (3 * i + j) by omega];exact hcs (3 * i + j) v (by rwa [List.getElem?_drop] at hj))
      (fun j hj=>by rw [Nat.add_assoc];exact hsp _ (by omega)) (fun j hj=>by rw [Nat.add_assoc];exact hfz _ (by omega)) (fun v hv=>h1c v (List.mem_of_mem_drop hv))
  obtain ⟨W1,hW1⟩ : ∃ W1,W1 = w.drew.setCells b (off + (i + 1) * 3) (cs.drop (3 * i)):=⟨_,rfl⟩
  have hsp1 : ∀ k,k < 3 * (n + 1) → (W1.cell? ⟨b,off + k,none⟩).isSome = true:=fun k hk=>by
    rw [hW1]
    exact isSome_setCells b _ _ _ (fun j hj=>by rw [Nat.add_assoc];exact hsp _ (by omega)) _ (hsp k hk)
  have hcp2 : ∀ (W : World),(∀ x,W.cell? x = W1.cell? x) → (∀ x,W.frozen? x = W1.frozen? x) → ∀ ty dc,(Builtin.copy_ #[57,57] ty #[.slice (some ⟨b,off + i * 3,none⟩) (n + 1 - i) dc,.slice (some ⟨vb,voff,none⟩) 1 vc]).run Try.prog W = .ok (goInt (1 : Nat)) (W.setCells b (off + i * 3) vs):=fun W hWc hWf ty dc =>
    run_copy_cellsK 3 W _ _ ty 73 b (off + i * 3) (n + 1 - i) dc ⟨vb,voff,none⟩ 1 vc 1 vs Try.underlying57 hsz (by simp only [Nat.min_def];split <;> omega) hvl
      (fun j v hj=>by
        rw [Addr.add_lit,hWc,hW1,World.cell?_setCells_out b _ _ _ _ (fun h _=>absurd h hvb)]
        exact hvs j v hj)
      (fun j hj=>by rw [hWc,Nat.add_assoc];exact hsp1 _ (by omega)) (fun j hj=>by rw [hWf,hW1,World.frozen?_setCells,Nat.add_assoc];exact hfz _ (by omega)) h1v
  rw [← hW1] at hcp1
  have mixed : Try.prog.follows .mixedOrders = true:=by kernel_rfl
  go_enter Try.func53,Try.ntmps53
  go_wp2_with (simp only [hov])
  go_region_law_o (refine step_copy_runI rfl _ _ 57 57 rfl _ _ (by simp [Act.eval,Act.put]) (by simp [Act.eval,Act.put]) (hcp1 _ _ _) ?_)
  go_wp2_with (at_builtin;refine wpList_copy_runI _ rfl _ _ 57 57 rfl _ _ rfl rfl (hcp2 _ (fun _=>rfl) (fun _=>rfl) _ _) ?_)
  go_ret
  first|exact ⟨rfl,rfl⟩|exact ⟨rfl,by first|rw [Nat.mul_comm 3 (i + 1),Nat.mul_comm 3 i]|rw [hW1,Nat.mul_comm 3 (i + 1),Nat.mul_comm 3 i]⟩
end Go.Proofs

namespace Go.Proofs
open Go.Shelf Go.RowKit Go.Lib
abbrev txZ : Value:=.agg #[.int .i64 0,.int .i64 0,.int .i64 0]
theorem Try.info73 : (Try.prog.info? 73).map (fun i=>(i.zero,i.size,i.bytes)) = some (some txZ,3,24):=by kernel_rfl
set_option maxHeartbeats 4000000 in
set_option maxRecDepth 100000 in
theorem Try.insert_end_room (b off n c vb voff vc : Nat) (vs : List Value) (w : World) (hroom : n + 1 ≤ c) (hc63 : c ≤ 9223372036854775807)
    (hvl : vs.length = 3) (hsp : ∀ j,j < 3 → (w.cell? ⟨b,off + n * 3 + j,none⟩).isSome = true) (hfz : ∀ j,j < 3 → w.frozen? ⟨b,off + n * 3 + j,none⟩ = false)
    (hvs : ∀ j v,vs[j]? = some v → w.cell? ⟨vb,voff + j,none⟩ = some v) (h1v : ∀ v ∈ vs,v.oneCell' = true) :
    Calls Try.prog 53 #[.slice (some ⟨b,off,none⟩) n c,.int .i64 n,.slice (some ⟨vb,voff,none⟩) 1 vc] w fun e w' =>
      e = .returned (.slice (some ⟨b,off,none⟩) (n + 1) c) ∧ w' = w.setCells b (off + n * 3) vs:=by
  obtain ⟨i0,hi0,hz0,hzs,hzb⟩:=info_parts Try.info73
  have mixed : Try.prog.follows .mixedOrders = true:=by kernel_rfl
  have hsrc : Src Try.prog i0.size 57 (.slice (some ⟨vb,voff,none⟩) 1 vc) 1 vs w:=by
    rw [hzs];exact Src.ofSlice w Try.underlying57 ⟨vb,voff,none⟩ 1 vc vs (by omega) (fun j u hj=>by rw [Addr.add_lit];exact hvs j u hj) h1v
  have hq:=fun (ops : Array Oper) (rest : List Oper) (o : Oper) (a : Act) (Q : Exit → Act → World → Prop) (hg : o.guard = none) (s x : Operand) (hop : o.op = Op.call { callee:=Callee.builtin Builtin.append,args:=#[s,x],argTypes:=#[57,57] }) (hs : a.eval s = .slice (some ⟨b,off,none⟩) n c) (hx : a.eval x = .slice (some ⟨vb,voff,none⟩) 1 vc)
      (hK : wpList Try.prog ops Q rest (a.put o.dst (.slice (some ⟨b,off,none⟩) (n + 1) c)) (w.setCells b (off + n * 3) vs)) =>
    wpList_append_room_src w (ops:=ops) (rest:=rest) (o:=o) (a:=a) (Q:=Q) hg s x 57 57 hop 73 i0 Try.underlying57 hi0 b off n c hs _ hx 1 vs hsrc hroom (by rw [hvl,hzs];exact hsp) (by rw [hvl,hzs];exact hfz) (by rw [hzs];exact hK)
  go_enter Try.func53,Try.ntmps53
  go_wp2_with (at_builtin;refine hq _ _ _ _ _ rfl _ _ rfl rfl rfl ?_)
  go_ret
  exact ⟨rfl,rfl⟩
set_option maxHeartbeats 4000000 in
set_option maxRecDepth 100000 in
theorem Try.insert_end_grow (base : Option Addr) (n c vb voff vc : Nat) (cs vs : List Value) (w : World) (hnc : n ≤ c) (hroom : c < n + 1) (hbig : (n + 1) * 24 ≤ 140737488355328)
    (hcl : cs.length = n * 3) (hvl : vs.length = 3) (hnil : base = none → n = 0)
    (hcs : ∀ a,base = some a → ∀ j v,cs[j]? = some v → w.cell? (a.add j) = some v)
    (hvs : ∀ j v,vs[j]? = some v → w.cell? ⟨vb,voff + j,none⟩ = some v) (h1v : ∀ v ∈ vs,v.oneCell' = true) :
    Calls Try.prog 53 #[.slice base n c,.int .i64 n,.slice (some ⟨vb,voff,none⟩) 1 vc] w fun e w' =>
      e = .returned (.slice (some ⟨w.heap.size,0,none⟩) (n + 1) (grownCap w (n + 1) c 73)) ∧
      w' = w.drew.alloc (.cells ((cs ++ vs).toArray ++ Builtin.zeroCells txZ.cells (grownCap w (n + 1) c 73 - (n + 1))) 73):=by
  have mixed : Try.prog.follows .mixedOrders = true:=by kernel_rfl
  obtain ⟨i0,hi0,hz0,hzs,hzb⟩:=info_parts Try.info73
  have hsrc : Src Try.prog i0.size 57 (.slice (some ⟨vb,voff,none⟩) 1 vc) 1 vs w:=by
    rw [hzs];exact Src.ofSlice w Try.underlying57 ⟨vb,voff,none⟩ 1 vc vs (by omega) (fun j u hj=>by rw [Addr.add_lit];exact hvs j u hj) h1v
  have hold : (Builtin.firstCells i0.size n (.slice base n c)).run Try.prog w.drew = .ok cs.toArray w.drew:=by
    rw [hzs]
    cases base with
    | none =>
      have h0:=hnil rfl
      subst h0
      rw [List.length_eq_zero_iff.1 (show cs.length = 0 by omega)]
      exact run_firstCells_none w.drew 3 0 0 c
    | some a=>exact run_firstCells_some w.drew 3 n a n c cs (by omega) (fun j v hj=>hcs a rfl j v hj)
  have hrun : ∀ ty,(Builtin.append_ #[57,57] ty #[.slice base n c,.slice (some ⟨vb,voff,none⟩) 1 vc]).run Try.prog w = _:=fun ty =>
    run_append_grow_src w 57 57 ty 73 i0 _ Try.underlying57 hi0 hz0 base n c cs hold _ 1 vs hsrc hroom (by omega) (by rw [hzb];exact growslice_fits hroom hbig)
  go_enter Try.func53,Try.ntmps53
  cases base with
  | none =>
    have h0:=hnil rfl
    subst h0
    go_wp2_with (at_builtin;refine Lib.wpList_append_run _ rfl _ _ _ _ rfl _ _ rfl rfl _ _ (hrun _) ?_)
    go_ret
    exact ⟨rfl,rfl⟩
  | some a =>
    obtain ⟨ab,ao,asp⟩:=a
    go_wp2_with (at_builtin;refine Lib.wpList_append_run _ rfl _ _ _ _ rfl _ _ rfl rfl _ _ (hrun _) ?_)
    all_goals (go_ret;exact ⟨rfl,rfl⟩)
end Go.Proofs

namespace Go.Proofs
open Go.Shelf Go.RowKit Go.Lib
set_option maxHeartbeats 4000000 in
set_option maxRecDepth 100000 in
theorem Try.insert_grow (b off n c i vb voff vc : Nat) (cs vs : List Value) (w : World) (hi : i < n) (hnc : n ≤ c) (hroom : c < n + 1) (hbig : (n + 1) * 24 ≤ 140737488355328)
    (hcl : cs.length = n * 3) (hvl : vs.length = 3)
    (hcs : ∀ j v,cs[j]? = some v → w.cell? ⟨b,off + j,none⟩ = some v)
    (hvs : ∀ j v,vs[j]? = some v → w.cell? ⟨vb,voff + j,none⟩ = some v) (h1c : ∀ v ∈ cs,v.oneCell' = true) (h1v : ∀ v ∈ vs,v.oneCell' = true) :
    Calls Try.prog 53 #[.slice (some ⟨b,off,none⟩) n c,.int .i64 i,.slice (some ⟨vb,voff,none⟩) 1 vc] w fun e w' =>
      e = .returned (.slice (some ⟨w.heap.size,0,none⟩) (n + 1) (grownCap w (n + 1) c 73)) ∧
      w' = (((w.alloc (.cells ((cs.take (i * 3)).toArray ++ Builtin.zeroCells txZ.cells (n + 1 - i) ++ Builtin.zeroCells txZ.cells (grownCap w (n + 1) c 73 - (n + 1))) 73)).drew.setCells w.heap.size (i * 3) vs).drew).setCells w.heap.size ((i + 1) * 3) (cs.drop (i * 3)):=by
  have mixed : Try.prog.follows .mixedOrders = true:=by kernel_rfl
  obtain ⟨i0,hi0,hz0,hzs,hzb⟩:=info_parts Try.info73
  have hz2 : ¬ ((i : Int) = (n : Int)):=by omega
  have hz3 : (c : Int) < (n : Int) + 1:=by omega
  have hsz : (Try.prog.info? 73).map (·.size) = some 3:=by rw [hi0];simp [hzs]
  have hbw : b < w.heap.size:=block_lt_of_cell (hcs 0 _ (List.getElem?_eq_getElem (by omega)))
  have hvw : vb < w.heap.size:=block_lt_of_cell (hvs 0 _ (List.getElem?_eq_getElem (by omega)))
  have hkk : (n : Int) + 1 - (i : Int) = ((n + 1 - i : Nat) : Int):=by omega
  have hik : i + (n + 1 - i) = n + 1:=by omega
  have hold : (Builtin.firstCells i0.size i (.slice (some ⟨b,off,none⟩) i c)).run Try.prog w.drew = .ok (cs.take (i * 3)).toArray w.drew:=by
    rw [hzs]
    exact run_firstCells_some w.drew 3 i ⟨b,off,none⟩ i c (cs.take (i * 3)) (by rw [List.length_take];omega) (fun j v hj=>by
      rw [Addr.add_lit]
      rw [List.getElem?_take] at hj
      split at hj
      · exact hcs j v hj
      · cases hj)
  have hrz : ∀ ty,(Builtin.append_ #[57,3] ty #[.slice (some ⟨b,off,none⟩) i c,.int .i64 ((n : Int) + 1 - (i : Int))]).run Try.prog w =
      .ok (.slice (some ⟨w.heap.size,0,none⟩) (n + 1) (grownCap w (n + 1) c 73)) (w.drew.alloc (.cells ((cs.take (i * 3)).toArray ++ Builtin.zeroCells txZ.cells (n + 1 - i) ++ Builtin.zeroCells txZ.cells (grownCap w (n + 1) c 73 - (n + 1))) 73)):=fun ty=>by
    have h:=Lib.run_append_grow_zeros w 57 3 ty 73 i0 _ .i64 .i64 Try.underlying57 Try.underlying3 hi0 hz0 (some ⟨b,off,none⟩) i c (cs.take (i * 3)) hold (n + 1 - i) (by omega) (by omega) (by omega) (by omega) (by rw [hzb];omega) (by rw [hzb,hik];exact growslice_fits hroom hbig)
    rw [hik] at h
    rw [hkk]
    exact h
  obtain ⟨G,hG⟩ : ∃ G,G = grownCap w (n + 1) c 73:=⟨_,rfl⟩
  obtain ⟨ROW,hROW⟩ : ∃ ROW : Array Value,ROW = (cs.take (i * 3)).toArray ++ Builtin.zeroCells txZ.cells (n + 1 - i) ++ Builtin.zeroCells txZ.cells (G - (n + 1)):=⟨_,rfl⟩
  rw [← hG] at hrz ⊢
  rw [← hROW] at hrz ⊢
  have hzc : ∀ k,(Builtin.zeroCells txZ.cells k).size = k * 3:=fun k=>by
    induction k with
    | zero=>simp [Builtin.zeroCells]
    | succ k ih=>simp [Builtin.zeroCells,Value.cells] at ih ⊢;try omega
  have hRl : (n + 1) * 3 ≤ ROW.size:=by
    rw [hROW,Array.size_append,Array.size_append,hzc,hzc,List.size_toArray,List.length_take]
    omega
  obtain ⟨W1,hW1⟩ : ∃ W1,W1 = w.drew.alloc (.cells ROW 73):=⟨_,rfl⟩
  rw [← hW1] at hrz
  have hN : ∀ j,j < (n + 1) * 3 → (W1.cell? ⟨w.heap.size,j,none⟩).isSome = true:=fun j hj=>by
    rw [hW1,World.cell?_alloc_at (w:=w.drew) ROW _ w.heap.size j rfl,Array.getElem?_eq_getElem (by omega)];rfl
  have hNf : ∀ j,W1.frozen? ⟨w.heap.size,j,none⟩ = false:=fun j=>by rw [hW1];exact World.frozen?_alloc_at (w:=w.drew) ROW _ w.heap.size j rfl
  have hOb : ∀ j v,w.cell? ⟨b,j,none⟩ = some v → W1.cell? ⟨b,j,none⟩ = some v:=fun j v h=>by rw [hW1,World.cell?_alloc_past (w:=w.drew) _ b j hbw];exact h
  have hOv : ∀ j v,w.cell? ⟨vb,j,none⟩ = some v → W1.cell? ⟨vb,j,none⟩ = some v:=fun j v h=>by rw [hW1,World.cell?_alloc_past (w:=w.drew) _ vb j hvw];exact h
  have hcpA : ∀ (W : World),(∀ x,W.cell? x = W1.cell? x) → (∀ x,W.frozen? x = W1.frozen? x) → ∀ ty dc,(Builtin.copy_ #[57,57] ty #[.slice (some ⟨w.heap.size,i * 3,none⟩) (n + 1 - i) dc,.slice (some ⟨vb,voff,none⟩) 1 vc]).run Try.prog W = .ok (goInt (1 : Nat)) (W.setCells w.heap.size (i * 3) vs):=fun W hWc hWf ty dc =>
    run_copy_cellsK 3 W _ _ ty 73 w.heap.size (i * 3) (n + 1 - i) dc ⟨vb,voff,none⟩ 1 vc 1 vs Try.underlying57 hsz (by simp only [Nat.min_def];split <;> omega) hvl
      (fun j v hj=>by rw [Addr.add_lit,hWc];exact hOv _ v (hvs j v hj))
      (fun j hj=>by rw [hWc];exact hN _ (by omega)) (fun j hj=>by rw [hWf];exact hNf _) h1v
  have hGn : n + 1 ≤ G:=by rw [hG];exact grownCap_ge w _ _ _
  have hG63 : G ≤ 9223372036854775807:=by
    have:=grownCap_le_maxLen w (n + 1) c 73 (by unfold maxLen;omega)
    rw [← hG] at this
    unfold maxLen at this
    omega
  have hGi : ¬ (G = i):=by omega
  have hGim : ¬ (G = i + 1):=by omega
  have hci : ¬ (c = i):=by omega
  have hbN : b ≠ w.heap.size:=by omega
  have hdl : (cs.drop (i * 3)).length = 3 * (n - i):=by rw [List.length_drop,hcl];omega
  have hcpB : ∀ (W : World),(∀ x,W.cell? x = (W1.setCells w.heap.size (i * 3) vs).cell? x) → (∀ x,W.frozen? x = (W1.setCells w.heap.size (i * 3) vs).frozen? x) → ∀ ty dc sc,(Builtin.copy_ #[57,57] ty #[.slice (some ⟨w.heap.size,(i + 1) * 3,none⟩) (n - i) dc,.slice (some ⟨b,off + i * 3,none⟩) (n - i) sc]).run Try.prog W = .ok (goInt (n - i : Nat)) (W.setCells w.heap.size ((i + 1) * 3) (cs.drop (i * 3))):=fun W hWc hWf ty dc sc =>
    run_copy_cellsK 3 W _ _ ty 73 w.heap.size ((i + 1) * 3) (n - i) dc ⟨b,off + i * 3,none⟩ (n - i) sc (n - i) (cs.drop (i * 3)) Try.underlying57 hsz (by simp only [Nat.min_def];split <;> omega) hdl
      (fun j v hj=>by
        rw [Addr.add_lit,hWc,World.cell?_setCells_out _ _ _ _ _ (fun h _=>absurd h hbN),Nat.add_assoc]
        exact hOb _ v (hcs (i * 3 + j) v (by rwa [List.getElem?_drop] at hj)))
      (fun j hj=>by rw [hWc];exact isSome_setCells _ _ _ _ (fun t ht=>hN _ (by omega)) _ (hN _ (by omega)))
      (fun j hj=>by rw [hWf,World.frozen?_setCells];exact hNf _) (fun v hv=>h1c v (List.mem_of_mem_drop hv))
  subst hW1
  have hE1 : ∀ x,((w.alloc (.cells ROW 73)).drew).cell? x = (w.drew.alloc (.cells ROW 73)).cell? x:=fun x=>rfl
  have hE2 : ∀ x,((w.alloc (.cells ROW 73)).drew).frozen? x = (w.drew.alloc (.cells ROW 73)).frozen? x:=fun x=>rfl
  have hF1 : ∀ x,(((w.alloc (.cells ROW 73)).drew.setCells w.heap.size (i * 3) vs).drew).cell? x = ((w.drew.alloc (.cells ROW 73)).setCells w.heap.size (i * 3) vs).cell? x:=fun x=>rfl
  have hF2 : ∀ x,(((w.alloc (.cells ROW 73)).drew.setCells w.heap.size (i * 3) vs).drew).frozen? x = ((w.drew.alloc (.cells ROW 73)).setCells w.heap.size (i * 3) vs).frozen? x:=fun x=>rfl
  have hw1 : IntKind.i64.wrap ((i : Int) + 1) = (i : Int) + 1:=by rw [IntKind.wrap_i64];omega
  have hb1 : (0 : Int) ≤ (i : Int) + 1:=by omega
  have hin : i ≤ n:=by omega
  have htn : ((i : Int) + 1).toNat = i + 1:=by omega
  have hb3 : (i : Int) ≤ (n : Int):=by omega
  have hn1 : n + 1 - (i + 1) = n - i:=by omega
  clear hkk hik hold hROW hG hRl hzc
  go_enter Try.func53,Try.ntmps53
  go_wp2_with (first
    | (at_builtin;refine Lib.wpList_append_run _ rfl _ _ _ _ rfl _ _ rfl rfl _ _ (hrz _) ?_)
    | (at_builtin;refine wpList_copy_runI _ rfl _ _ 57 57 rfl _ _ rfl rfl (hcpA _ hE1 hE2 _ _) ?_)
    | (at_builtin;refine wpList_copy_runI _ rfl _ _ 57 57 rfl _ _ rfl rfl (hcpB _ (fun _=>rfl) (fun _=>rfl) _ _ _) ?_))
  go_region_law_o (refine step_copy_runI rfl _ _ 57 57 rfl (.slice (some ⟨w.heap.size,(i + 1) * 3,none⟩) (n - i) (G - (i + 1))) (.slice (some ⟨b,off + i * 3,none⟩) (n - i) (c - i)) (by simp [Act.eval,Act.put]) (by simp [Act.eval,Act.put]) (hcpB _ hF1 hF2 3 (G - (i + 1)) (c - i)) ?_)
  go_wp2
  go_ret
  exact ⟨rfl,rfl⟩
end Go.Proofs
