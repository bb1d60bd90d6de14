/- Contracts of index's functions: datoms added; how many; is one there. -/
import Derived.Test.YtjojdiefnhbglaaGreatYT6
import Derived.Test.YtjojdiefnhbglaaGreatYT7
import Derived.Test.YtjojdiefnhbglaaGreatOps25
set_option linter.all false
namespace Go.Proofs
open Go.AL Go.Sort
attribute [local irreducible] Go.AL.W Go.AL.WL Go.AL.WD Go.AL.POp Go.AL.PPOp Go.AL.POpS Go.AL.PC Go.AL.AC Go.AL.YW Go.AL.Ret Go.AL.Le Go.AL.thn Go.AL.inBlk Go.AL.scp
abbrev Ix:=Nat → Option Tr
def ixC (T : Ix) : List AV:=[.sc (.pointer none),oT (T 1),oT (T 2),oT (T 3),oT (T 4)]
def xA : Option Ix → AV
  | none=>.sc (.pointer none)
  | some T=>.ep (ixC T)
theorem xA_no : xA none = .sc (.pointer none):=rfl
theorem xA_so (T : Ix) : xA (some T) = .ep [.sc (.pointer none),oT (T 1),oT (T 2),oT (T 3),oT (T 4)]:=rfl
def topI (x : Option Ix) : Ix:=x.getD fun _=>none
theorem one_oT (o : Option Tr) : (oT o).one = true:=by
  cases o with
  | none=>rw [oT_no];rfl
  | some t=>rw [oT_so];rfl
theorem one_oT1 (o : Option Tr) : ([oT o] : List AV).all AV.one = true:=by rw [List.all_cons,one_oT];rfl
theorem cells_oT (o : Option Tr) : cellsO (oT o) = some [oT o]:=by
  cases o with
  | none=>rw [oT_no];rfl
  | some t=>rw [oT_so];rfl
theorem one_ix (T : Ix) : ([.sc (.pointer none),oT (T 1),oT (T 2),oT (T 3),oT (T 4)] : List AV).all AV.one = true:=by
  simp only [List.all_cons,List.all_nil,one_oT];rfl
noncomputable def addT (T : Ix) (d : Dat) (o : Nat) : Option Tr:=if dkeyE o d = 0 then some (putT (dkeyB o d) [] (topT (T o))) else T o
noncomputable def addsT (T : Ix) (l : List Dat) : Ix:=l.foldl (fun T d=>addT T d) T
theorem addsT_snoc (T : Ix) (l : List Dat) (i : Nat) (h : i < l.length) : addsT T (l.take (i + 1)) = addT (addsT T (l.take i)) l[i]:=by
  unfold addsT;rw [List.take_succ_eq_append_getElem h,List.foldl_append];rfl
def IxOf (L : List Dat) (T : Ix) : Prop:=∀ o : Nat,1 ≤ o → o ≤ 4 → TreeOf (o : Int) L (T o)
theorem IxOf.init : IxOf [] (fun _=>none):=fun o _ _=>TreeOf.init o
theorem IxOf.add {L : List Dat} {T : Ix} (h : IxOf L T) (d : Dat) (hl : L.length < 1152921504606846975) : IxOf (L ++ [d]) (addT T d):=fun o h1 h2=>by
  unfold addT
  split
  · rename_i hk;exact (h o h1 h2).put hk hl
  · rename_i hk;exact (h o h1 h2).skip hk
theorem IxOf.adds {L : List Dat} {T : Ix} (h : IxOf L T) : ∀ (l : List Dat),L.length + l.length < 1152921504606846975 → IxOf (L ++ l) (addsT T l):=by
  intro l
  induction l generalizing L T with
  | nil=>intro _;rw [List.append_nil];exact h
  | cons d l ih =>
    intro hl
    simp only [List.length_cons] at hl
    have:=ih (h.add d (by omega)) (by simp;omega)
    rw [List.append_assoc] at this
    exact this
theorem partB_len {p : Prt} (h : PartP p) : (partB p).length ≤ 2009:=by
  unfold partB
  split
  · rename_i hv
    have h1:=valB_len p.v
    have h2:=may_len (h hv)
    omega
  · rw [num8_len];omega
theorem dkey_len (o : Int) (d : Dat) : (dkeyB o d).length ≤ 4096:=by
  unfold dkeyB
  split
  · split
    · rename_i h1 h2
      have hv : (partB (prtV d.v)).length ≤ 2009:=partB_len fun _=>h2.1.2.2.2.2.1
      have hn : ∀ n,(partB (prtN n)).length = 8:=fun n=>by unfold partB prtN;exact num8_len n
      unfold part7 fst1 fst2 fst3
      simp only [List.flatMap_cons,List.flatMap_nil,List.length_append,List.length_nil,hn]
      by_cases e1 : o = 1
      · simp only [e1,if_true,hn];omega
      · by_cases e2 : o = 2
        · subst e2;simp only [hn,if_neg (show ¬ ((2 : Int) = 1) by decide),if_pos];omega
        · by_cases e3 : o = 3
          · subst e3;simp only [hn,if_neg (show ¬ ((3 : Int) = 1) by decide),if_neg (show ¬ ((3 : Int) = 2) by decide),if_pos];omega
          · simp only [hn,if_neg e1,if_neg e2,if_neg e3];omega
    · simp
  · simp
set_option maxHeartbeats 8000000 in
theorem ilen_pc [GlobF Tryz.prog] (x : Option Ix) : PC Tryz.prog 42 [xA x] (.sc (.int .i64 (manyT (topT (topI x 1))))):=by
  cases x with
  | none =>
    rw [xA_no]
    refine PC.of_body Tryz.func42 Tryz.ntmps42 rfl rfl rfl ?_
    repeat' first
 | (apply p1 (hd:=rfl);case hop=>first|(apply D_move;rfl)|(apply D_assign;rfl)|exact D_peN rfl rfl)
 | refine W_seq ?_
 | refine W_region ?_
 | (refine idC ?_;refine c1 rfl ?_)
 | refine WL_nil ?_
 | refine tn ?_
 | refine tr ?_
 | refine W_ret ?_
 | (refine idR ?_;refine ret1 rfl rfl rfl ?_)
 | (refine Le.int ?_)
    all_goals first|rfl|contradiction|skip
  | some T =>
    have h1:=tlen_pc (T 1)
    rw [xA_so]
    refine PC.of_body Tryz.func42 Tryz.ntmps42 rfl rfl rfl ?_
    repeat' first
 | (apply p1 (hd:=rfl);case hop=>first|(apply D_move;rfl)|(apply D_assign;rfl)|exact D_peE rfl rfl|exact D_nilE rfl|(apply D_pc h1;rfl;exact .same rfl .nil)|(apply D_load1;rfl)|(apply D_fld;rfl)|(apply D_ixPE;rfl;rfl;all_goals first|omega|((repeat rw [w64 _ (by omega) (by omega)]);omega)|decide))
 | refine W_seq ?_
 | refine W_region ?_
 | (refine idC ?_;refine c0 rfl ?_)
 | refine WL_nil ?_
 | refine tn ?_
 | refine W_skip ?_
 | refine W_ret ?_
 | (refine idR ?_;refine ret1 rfl rfl rfl ?_)
 | (refine Le.int ?_)
    all_goals first|rfl|contradiction|skip
theorem addT_congr {T S : Ix} {d : Dat} {o : Nat} (h : T o = S o) : addT T d o = addT S d o:=by unfold addT;rw [h]
abbrev sl9 (l : List Dat) : AV:=.sl none 9 (l.map dC)
set_option maxHeartbeats 64000000 in
theorem iadd_pc [GlobF Tryz.prog] (x : Option Ix) (L l : List Dat) (hx : IxOf L (topI x)) (hl : L.length + l.length ≤ 262144) (hb : ∀ d,d ∈ l → d.v.s.length < 9223372036854775808) (R : AV) (E : Int)
    (hg : (∀ d,d ∈ l → dmayP d) → R = xA (some (addsT (topI x) l)) ∧ E = 0) (hn : (∃ d,d ∈ l ∧ ¬ dmayP d) → R = .sc (.pointer none) ∧ E = 110) :
    PC Tryz.prog 12 [xA x,sl9 l] (.tu [R,.sc (.int .i64 E)]):=by
  have hz : ∀ n : Int,Value.bool (bNot (iEq n n)) = .bool false:=fun n=>by rw [(iEq_t _ _).mpr rfl];simp [bNot]
  obtain ⟨T0,hT0⟩ : ∃ T0,T0 = topI x:=⟨_,rfl⟩
  rw [← hT0] at hg hx
  refine PC.of_body Tryz.func12 Tryz.ntmps12 rfl rfl rfl ?_
  rcases x with _|T1
  · have e0 : T0 = fun _=>none:=hT0
    rw [xA_no]
    repeat' first
 | (refine m_box rfl rfl rfl ?_)
 | (apply p1 (hd:=rfl);case hop=>first|(apply D_move;rfl)|(apply D_assign;rfl)|exact D_pnN rfl rfl|(apply D_lenM;rfl)|exact D_build rfl)
 | refine W_seq ?_
 | refine W_region ?_
 | (refine idC ?_;refine c0 rfl ?_)
 | refine WL_nil ?_
 | refine tn ?_
 | refine W_skip ?_
 | (refine W_block ?_)
    refine W_loopL (X:=Nat × Ix) (fun c=>[(6,.bp 0 0),(24,sl9 l),(25,.sc (.int .i64 (l.length : Int))),(26,.sc (.int .i64 (c.1 : Int)))]) (fun c=>[.cells (ixC c.2)])
      (fun c=>(c.1 ≤ l.length ∧ ∀ (j : Nat) (h : j < l.length),j < c.1 → dmayP l[j]) ∧ ∀ o,1 ≤ o → o ≤ 4 → c.2 o = addsT T0 (l.take c.1) o) (fun c=>l.length - c.1) (0,T0) ⟨⟨Nat.zero_le _,fun j h hj=>absurd hj (Nat.not_lt_zero j)⟩,fun o _ _=>by simp [addsT]⟩ ⟨rfl,rfl,rfl,rfl,trivial⟩ (by rw [e0];rfl) ?_
    rintro ⟨i,T⟩ ⟨⟨hi,hz2⟩,hT⟩
    simp only at hi hz2 hT
    by_cases hil : i < l.length
    · have hc:=dcheck_pc (l[i]'hil) (hb _ (List.getElem_mem _))
      by_cases hm : dmayP (l[i]'hil)
      · rw [← dP_T hm,if_pos rfl] at hc
        repeat' first
 | (apply p1 (hd:=rfl);case hop=>first|(apply D_move;rfl)|(apply D_assign;rfl)|(apply D_pc hc;rfl;exact .same rfl .nil)|(apply D_int;rfl;rfl;rfl)|(apply D_loadW;rfl;rfl)|(apply D_idxAn;rfl;rfl;(first|omega|(simp;done))))
 | refine W_seq ?_
 | refine W_region ?_
 | (refine idC ?_;refine cs rfl (fun _=>?_) (fun _=>?_))
 | refine WL_nil ?_
 | refine tn ?_
 | refine tr ?_
 | refine br ?_
 | refine te ?_
 | (refine idB ?_;refine bh rfl ?_)
 | refine W_skip ?_
 | refine W_block ?_
 | refine W_exit ?_
 | refine W_ret ?_
 | (refine idR ?_;refine ret2 rfl rfl rfl rfl ?_ ?_)
 | (refine idA ?_;refine m_var rfl rfl rfl rfl rfl rfl rfl ?_)
 | (refine Le.int ?_)
        all_goals first|contradiction|(exfalso;rename_i hh;simp only at hh;omega)|skip
        refine W_loopL (X:=Nat × Ix) (fun c=>[(6,.bp 0 0),(8,.ep (dC (l[i]'hil))),(9,.sc (.int .i64 (c.1 : Int))),(24,sl9 l),(25,.sc (.int .i64 (l.length : Int))),(26,.sc (.int .i64 (i : Int)))]) (fun c=>[.cells (ixC c.2)])
          (fun c=>(1 ≤ c.1 ∧ c.1 ≤ 5) ∧ ∀ j,1 ≤ j → j ≤ 4 → c.2 j = if j < c.1 then addT T (l[i]'hil) j else T j) (fun c=>5 - c.1) (1,T) ⟨⟨Nat.le_refl 1,by show 1 ≤ 5;omega⟩,fun j h1 h2=>by show T j = _;rw [if_neg (show ¬ j < 1 by omega)]⟩ ⟨rfl,rfl,rfl,rfl,rfl,rfl,trivial⟩ rfl ?_
        rintro ⟨o,S⟩ ⟨⟨ho1,ho5⟩,hS⟩
        simp only at ho1 ho5 hS
        by_cases ho : o ≤ 4
        · have hk:=dkey_pc (o : Int) (l[i]'hil) (hb _ (List.getElem_mem _))
          have hSo : S o = T o:=by rw [hS o ho1 ho,if_neg (Nat.lt_irrefl o)]
          have hlt : (List.take i l).length ≤ l.length:=by rw [List.length_take];omega
          have htr : TreeOf o (L ++ l.take i) (S o):=by rw [hSo,hT o ho1 ho];exact hx.adds (l.take i) (by omega) o ho1 ho
          have hsz : sz (topT (S o)) ≤ 262144:=by have:=htr.len;rw [List.length_append] at this;omega
          by_cases he : dkeyE o (l[i]'hil) = 0
          · have hp:=tput_pc (dkeyB o (l[i]'hil)) [] (S o) htr.ok (by omega) (dkey_len _ _) (by simp) (.inl (by omega))
            have ha : addT T (l[i]'hil) o = some (putT (dkeyB o (l[i]'hil)) [] (topT (S o))):=by unfold addT;rw [if_pos he,hSo]
            rw [he] at hk
            have hS2 : ∀ j,1 ≤ j → j ≤ 4 → (fun j=>if j = o then some (putT (dkeyB (o : Int) (l[i]'hil)) [] (topT (S o))) else S j) j = if j < o + 1 then addT T (l[i]'hil) j else T j:=fun j h1 h2=>by
              simp only
              by_cases hj : j = o
              · subst hj;rw [if_pos rfl,if_pos (Nat.lt_succ_self j),ha]
              · rw [if_neg hj,hS j h1 h2]
                by_cases hj2 : j < o
                · rw [if_pos hj2,if_pos (by omega)]
                · rw [if_neg hj2,if_neg (by omega)]
            rcases (by omega : o = 1 ∨ o = 2 ∨ o = 3 ∨ o = 4) with rfl|rfl|rfl|rfl
            · repeat' first
 | (refine pS (S_store rfl rfl (cells_oT _) rfl rfl (one_oT1 _) rfl) ?_)
 | (apply p1 (hd:=rfl);case hop=>first|(apply D_move;rfl)|(apply D_assign;rfl)|(apply D_pc hk;rfl;exact .same rfl (.same rfl .nil))|(apply D_pc hp;rfl;exact .same rfl (.same rfl (.niln rfl .nil)))|(apply D_int;rfl;rfl;rfl)|(apply D_ext;rfl;rfl)|(apply D_loadW;rfl;rfl)|exact D_fldB rfl|(apply D_nilB;rfl)|(apply D_ixPB;rfl;rfl;all_goals first|omega|((repeat rw [w64 _ (by omega) (by omega)]);omega)|decide))
 | refine W_seq ?_
 | refine W_region ?_
 | (refine idC ?_;refine cs rfl (fun _=>?_) (fun _=>?_))
 | refine WL_nil ?_
 | refine tn ?_
 | refine tr ?_
 | refine br ?_
 | refine bn ?_
 | refine te ?_
 | (refine idB ?_;refine bh rfl ?_)
 | refine W_skip ?_
 | refine W_block ?_
 | refine W_exit ?_
 | refine W_ret ?_
 | (refine idR ?_;refine ret2 rfl rfl rfl rfl ?_ ?_)
 | (refine idLd ?_;refine p1L (D_loadB1 rfl rfl rfl) rfl ?_)
 | (refine Le.int ?_)
              all_goals first
                | contradiction
                | (exfalso;rename_i hh;simp only at hh;omega)
                | exact ⟨rfl,(1 + 1,fun j=>if j = 1 then some (putT (dkeyB ((1 : Nat) : Int) (l[i]'hil)) [] (topT (S 1))) else S j),⟨⟨by show 1 ≤ 1 + 1;omega,by show 1 + 1 ≤ 5;omega⟩,hS2⟩,by show 5 - (1 + 1) < 5 - 1;omega,⟨rfl,rfl,rfl,rfl,rfl,rfl,trivial⟩,rfl⟩
                | skip
            · repeat' first
 | (refine pS (S_store rfl rfl (cells_oT _) rfl rfl (one_oT1 _) rfl) ?_)
 | (apply p1 (hd:=rfl);case hop=>first|(apply D_move;rfl)|(apply D_assign;rfl)|(apply D_pc hk;rfl;exact .same rfl (.same rfl .nil))|(apply D_pc hp;rfl;exact .same rfl (.same rfl (.niln rfl .nil)))|(apply D_int;rfl;rfl;rfl)|(apply D_ext;rfl;rfl)|(apply D_loadW;rfl;rfl)|exact D_fldB rfl|(apply D_nilB;rfl)|(apply D_ixPB;rfl;rfl;all_goals first|omega|((repeat rw [w64 _ (by omega) (by omega)]);omega)|decide))
 | refine W_seq ?_
 | refine W_region ?_
 | (refine idC ?_;refine cs rfl (fun _=>?_) (fun _=>?_))
 | refine WL_nil ?_
 | refine tn ?_
 | refine tr ?_
 | refine br ?_
 | refine bn ?_
 | refine te ?_
 | (refine idB ?_;refine bh rfl ?_)
 | refine W_skip ?_
 | refine W_block ?_
 | refine W_exit ?_
 | refine W_ret ?_
 | (refine idR ?_;refine ret2 rfl rfl rfl rfl ?_ ?_)
 | (refine idLd ?_;refine p1L (D_loadB1 rfl rfl rfl) rfl ?_)
 | (refine Le.int ?_)
              all_goals first
                | contradiction
                | (exfalso;rename_i hh;simp only at hh;omega)
                | exact ⟨rfl,(2 + 1,fun j=>if j = 2 then some (putT (dkeyB ((2 : Nat) : Int) (l[i]'hil)) [] (topT (S 2))) else S j),⟨⟨by show 1 ≤ 2 + 1;omega,by show 2 + 1 ≤ 5;omega⟩,hS2⟩,by show 5 - (2 + 1) < 5 - 2;omega,⟨rfl,rfl,rfl,rfl,rfl,rfl,trivial⟩,rfl⟩
                | skip
            · repeat' first
 | (refine pS (S_store rfl rfl (cells_oT _) rfl rfl (one_oT1 _) rfl) ?_)
 | (apply p1 (hd:=rfl);case hop=>first|(apply D_move;rfl)|(apply D_assign;rfl)|(apply D_pc hk;rfl;exact .same rfl (.same rfl .nil))|(apply D_pc hp;rfl;exact .same rfl (.same rfl (.niln rfl .nil)))|(apply D_int;rfl;rfl;rfl)|(apply D_ext;rfl;rfl)|(apply D_loadW;rfl;rfl)|exact D_fldB rfl|(apply D_nilB;rfl)|(apply D_ixPB;rfl;rfl;all_goals first|omega|((repeat rw [w64 _ (by omega) (by omega)]);omega)|decide))
 | refine W_seq ?_
 | refine W_region ?_
 | (refine idC ?_;refine cs rfl (fun _=>?_) (fun _=>?_))
 | refine WL_nil ?_
 | refine tn ?_
 | refine tr ?_
 | refine br ?_
 | refine bn ?_
 | refine te ?_
 | (refine idB ?_;refine bh rfl ?_)
 | refine W_skip ?_
 | refine W_block ?_
 | refine W_exit ?_
 | refine W_ret ?_
 | (refine idR ?_;refine ret2 rfl rfl rfl rfl ?_ ?_)
 | (refine idLd ?_;refine p1L (D_loadB1 rfl rfl rfl) rfl ?_)
 | (refine Le.int ?_)
              all_goals first
                | contradiction
                | (exfalso;rename_i hh;simp only at hh;omega)
                | exact ⟨rfl,(3 + 1,fun j=>if j = 3 then some (putT (dkeyB ((3 : Nat) : Int) (l[i]'hil)) [] (topT (S 3))) else S j),⟨⟨by show 1 ≤ 3 + 1;omega,by show 3 + 1 ≤ 5;omega⟩,hS2⟩,by show 5 - (3 + 1) < 5 - 3;omega,⟨rfl,rfl,rfl,rfl,rfl,rfl,trivial⟩,rfl⟩
                | skip
            · repeat' first
 | (refine pS (S_store rfl rfl (cells_oT _) rfl rfl (one_oT1 _) rfl) ?_)
 | (apply p1 (hd:=rfl);case hop=>first|(apply D_move;rfl)|(apply D_assign;rfl)|(apply D_pc hk;rfl;exact .same rfl (.same rfl .nil))|(apply D_pc hp;rfl;exact .same rfl (.same rfl (.niln rfl .nil)))|(apply D_int;rfl;rfl;rfl)|(apply D_ext;rfl;rfl)|(apply D_loadW;rfl;rfl)|exact D_fldB rfl|(apply D_nilB;rfl)|(apply D_ixPB;rfl;rfl;all_goals first|omega|((repeat rw [w64 _ (by omega) (by omega)]);omega)|decide))
 | refine W_seq ?_
 | refine W_region ?_
 | (refine idC ?_;refine cs rfl (fun _=>?_) (fun _=>?_))
 | refine WL_nil ?_
 | refine tn ?_
 | refine tr ?_
 | refine br ?_
 | refine bn ?_
 | refine te ?_
 | (refine idB ?_;refine bh rfl ?_)
 | refine W_skip ?_
 | refine W_block ?_
 | refine W_exit ?_
 | refine W_ret ?_
 | (refine idR ?_;refine ret2 rfl rfl rfl rfl ?_ ?_)
 | (refine idLd ?_;refine p1L (D_loadB1 rfl rfl rfl) rfl ?_)
 | (refine Le.int ?_)
              all_goals first
                | contradiction
                | (exfalso;rename_i hh;simp only at hh;omega)
                | exact ⟨rfl,(4 + 1,fun j=>if j = 4 then some (putT (dkeyB ((4 : Nat) : Int) (l[i]'hil)) [] (topT (S 4))) else S j),⟨⟨by show 1 ≤ 4 + 1;omega,by show 4 + 1 ≤ 5;omega⟩,hS2⟩,by show 5 - (4 + 1) < 5 - 4;omega,⟨rfl,rfl,rfl,rfl,rfl,rfl,trivial⟩,rfl⟩
                | skip
          · have hS3 : ∀ j,1 ≤ j → j ≤ 4 → S j = if j < o + 1 then addT T (l[i]'hil) j else T j:=fun j h1 h2=>by
              rw [hS j h1 h2]
              by_cases hj : j = o
              · subst hj;rw [if_neg (Nat.lt_irrefl j),if_pos (Nat.lt_succ_self j)];unfold addT;rw [if_neg he]
              · by_cases hj2 : j < o
                · rw [if_pos hj2,if_pos (by omega)]
                · rw [if_neg hj2,if_neg (by omega)]
            rcases (by omega : o = 1 ∨ o = 2 ∨ o = 3 ∨ o = 4) with rfl|rfl|rfl|rfl
            · repeat' first
 | (apply p1 (hd:=rfl);case hop=>first|(apply D_move;rfl)|(apply D_assign;rfl)|(apply D_pc hk;rfl;exact .same rfl (.same rfl .nil))|(apply D_int;rfl;rfl;rfl)|(apply D_ext;rfl;rfl)|(apply D_loadW;rfl;rfl)|exact D_fldB rfl|(apply D_nilB;rfl)|(apply D_ixPB;rfl;rfl;all_goals first|omega|((repeat rw [w64 _ (by omega) (by omega)]);omega)|decide))
 | refine W_seq ?_
 | refine W_region ?_
 | (refine idC ?_;refine cs rfl (fun _=>?_) (fun _=>?_))
 | refine WL_nil ?_
 | refine tn ?_
 | refine bn ?_
 | refine te ?_
 | (refine idB ?_;refine bh rfl ?_)
 | refine W_skip ?_
 | refine W_block ?_
 | refine W_exit ?_
 | (refine idLd ?_;refine p1L (D_loadB1 rfl rfl rfl) rfl ?_)
              all_goals first
                | contradiction
                | (exfalso;rename_i hh;simp only at hh;omega)
                | (exfalso;rename_i hh;exact he hh)
                | exact ⟨rfl,(1 + 1,S),⟨⟨by show 1 ≤ 1 + 1;omega,by show 1 + 1 ≤ 5;omega⟩,hS3⟩,by show 5 - (1 + 1) < 5 - 1;omega,⟨rfl,rfl,rfl,rfl,rfl,rfl,trivial⟩,rfl⟩
                | skip
            · repeat' first
 | (apply p1 (hd:=rfl);case hop=>first|(apply D_move;rfl)|(apply D_assign;rfl)|(apply D_pc hk;rfl;exact .same rfl (.same rfl .nil))|(apply D_int;rfl;rfl;rfl)|(apply D_ext;rfl;rfl)|(apply D_loadW;rfl;rfl)|exact D_fldB rfl|(apply D_nilB;rfl)|(apply D_ixPB;rfl;rfl;all_goals first|omega|((repeat rw [w64 _ (by omega) (by omega)]);omega)|decide))
 | refine W_seq ?_
 | refine W_region ?_
 | (refine idC ?_;refine cs rfl (fun _=>?_) (fun _=>?_))
 | refine WL_nil ?_
 | refine tn ?_
 | refine bn ?_
 | refine te ?_
 | (refine idB ?_;refine bh rfl ?_)
 | refine W_skip ?_
 | refine W_block ?_
 | refine W_exit ?_
 | (refine idLd ?_;refine p1L (D_loadB1 rfl rfl rfl) rfl ?_)
              all_goals first
                | contradiction
                | (exfalso;rename_i hh;simp only at hh;omega)
                | (exfalso;rename_i hh;exact he hh)
                | exact ⟨rfl,(2 + 1,S),⟨⟨by show 1 ≤ 2 + 1;omega,by show 2 + 1 ≤ 5;omega⟩,hS3⟩,by show 5 - (2 + 1) < 5 - 2;omega,⟨rfl,rfl,rfl,rfl,rfl,rfl,trivial⟩,rfl⟩
                | skip
            · repeat' first
 | (apply p1 (hd:=rfl);case hop=>first|(apply D_move;rfl)|(apply D_assign;rfl)|(apply D_pc hk;rfl;exact .same rfl (.same rfl .nil))|(apply D_int;rfl;rfl;rfl)|(apply D_ext;rfl;rfl)|(apply D_loadW;rfl;rfl)|exact D_fldB rfl|(apply D_nilB;rfl)|(apply D_ixPB;rfl;rfl;all_goals first|omega|((repeat rw [w64 _ (by omega) (by omega)]);omega)|decide))
 | refine W_seq ?_
 | refine W_region ?_
 | (refine idC ?_;refine cs rfl (fun _=>?_) (fun _=>?_))
 | refine WL_nil ?_
 | refine tn ?_
 | refine bn ?_
 | refine te ?_
 | (refine idB ?_;refine bh rfl ?_)
 | refine W_skip ?_
 | refine W_block ?_
 | refine W_exit ?_
 | (refine idLd ?_;refine p1L (D_loadB1 rfl rfl rfl) rfl ?_)
              all_goals first
                | contradiction
                | (exfalso;rename_i hh;simp only at hh;omega)
                | (exfalso;rename_i hh;exact he hh)
                | exact ⟨rfl,(3 + 1,S),⟨⟨by show 1 ≤ 3 + 1;omega,by show 3 + 1 ≤ 5;omega⟩,hS3⟩,by show 5 - (3 + 1) < 5 - 3;omega,⟨rfl,rfl,rfl,rfl,rfl,rfl,trivial⟩,rfl⟩
                | skip
            · repeat' first
 | (apply p1 (hd:=rfl);case hop=>first|(apply D_move;rfl)|(apply D_assign;rfl)|(apply D_pc hk;rfl;exact .same rfl (.same rfl .nil))|(apply D_int;rfl;rfl;rfl)|(apply D_ext;rfl;rfl)|(apply D_loadW;rfl;rfl)|exact D_fldB rfl|(apply D_nilB;rfl)|(apply D_ixPB;rfl;rfl;all_goals first|omega|((repeat rw [w64 _ (by omega) (by omega)]);omega)|decide))
 | refine W_seq ?_
 | refine W_region ?_
 | (refine idC ?_;refine cs rfl (fun _=>?_) (fun _=>?_))
 | refine WL_nil ?_
 | refine tn ?_
 | refine bn ?_
 | refine te ?_
 | (refine idB ?_;refine bh rfl ?_)
 | refine W_skip ?_
 | refine W_block ?_
 | refine W_exit ?_
 | (refine idLd ?_;refine p1L (D_loadB1 rfl rfl rfl) rfl ?_)
              all_goals first
                | contradiction
                | (exfalso;rename_i hh;simp only at hh;omega)
                | (exfalso;rename_i hh;exact he hh)
                | exact ⟨rfl,(4 + 1,S),⟨⟨by show 1 ≤ 4 + 1;omega,by show 4 + 1 ≤ 5;omega⟩,hS3⟩,by show 5 - (4 + 1) < 5 - 4;omega,⟨rfl,rfl,rfl,rfl,rfl,rfl,trivial⟩,rfl⟩
                | skip
        · have e2 : o = 5:=by omega
          subst e2
          repeat' first
 | (apply p1 (hd:=rfl);case hop=>first|(apply D_move;rfl)|(apply D_int;rfl;rfl;rfl)|(apply D_loadW;rfl;rfl))
 | refine W_seq ?_
 | refine W_region ?_
 | (refine idC ?_;refine cs rfl (fun _=>?_) (fun _=>?_))
 | refine WL_nil ?_
 | refine tn ?_
 | refine bn ?_
 | refine te ?_
 | (refine idB ?_;refine bh rfl ?_)
 | refine W_skip ?_
 | refine W_block ?_
 | (refine W_exit ?_)
          all_goals first
            | contradiction
            | (exfalso;rename_i hh;simp only at hh;omega)
            | exact ⟨rfl,(i + 1,S),⟨⟨hil,fun j hj hji=>by
                by_cases e : j = i
                · subst e;exact hm
                · exact hz2 j hj (by have : j < i + 1:=hji;omega)⟩,fun j h1 h2=>by
                show S j = addsT T0 (l.take (i + 1)) j
                rw [addsT_snoc _ _ _ hil,hS j h1 h2,if_pos (by omega)]
                exact addT_congr (hT j h1 h2)⟩,by show l.length - (i + 1) < l.length - i;omega,⟨rfl,rfl,rfl,ieq (wsucc i (by omega)),trivial⟩,rfl⟩
            | skip
      · obtain ⟨rfl,rfl⟩:=hn ⟨_,List.getElem_mem hil,hm⟩
        rw [← dP_F hm,if_neg (by decide)] at hc
        repeat' first
 | (apply p1 (hd:=rfl);case hop=>first|(apply D_move;rfl)|(apply D_assign;rfl)|(apply D_pc hc;rfl;exact .same rfl .nil)|(apply D_int;rfl;rfl;rfl)|(apply D_loadW;rfl;rfl)|(apply D_idxAn;rfl;rfl;(first|omega|(simp;done))))
 | refine W_seq ?_
 | refine W_region ?_
 | (refine idC ?_;refine cs rfl (fun _=>?_) (fun _=>?_))
 | refine WL_nil ?_
 | refine tn ?_
 | refine tr ?_
 | refine br ?_
 | refine te ?_
 | (refine idB ?_;refine bh rfl ?_)
 | refine W_skip ?_
 | refine W_block ?_
 | refine W_exit ?_
 | refine W_ret ?_
 | (refine idR ?_;refine ret2 rfl rfl rfl rfl ?_ ?_)
 | (refine idA ?_;refine m_var rfl rfl rfl rfl rfl rfl rfl ?_)
 | (refine Le.int ?_)
        all_goals first|contradiction|(exfalso;rename_i hh;simp only at hh;omega)|exact Le.of_eq rfl|rfl|skip
    · have e1 : i = l.length:=by omega
      subst e1
      rw [List.take_length] at hT
      obtain ⟨rfl,rfl⟩:=hg fun d hd=>by
        obtain ⟨j,hj,rfl⟩:=List.getElem_of_mem hd
        exact hz2 j hj hj
      have hxl:=hx.adds l (by omega)
      have hln:=ilen_pc (some T)
      have ho:=okT_deep (hxl 1 (by omega) (by omega)).ok
      have hle:=(hxl 1 (by omega) (by omega)).len
      rw [← hT 1 (by omega) (by omega)] at ho hle
      rw [List.length_append] at hle
      have hmm : manyT (topT (topI (some T) 1)) ≤ 262144:=by
        show manyT (topT (T 1)) ≤ 262144
        rw [ho.2];omega
      rw [xA_so] at hln
      repeat' first
 | (apply p1 (hd:=rfl);case hop=>first|(apply D_move;rfl)|(apply D_int;rfl;rfl;rfl)|(apply D_loadW;rfl;rfl)|(apply D_idxAn;rfl;rfl;(first|omega|(simp;done))))
 | refine W_seq ?_
 | refine W_region ?_
 | (refine idC ?_;refine cs rfl (fun _=>?_) (fun _=>?_))
 | refine WL_nil ?_
 | refine tn ?_
 | refine te ?_
 | (refine idB ?_;refine bh rfl ?_)
 | refine W_skip ?_
 | refine W_block ?_
 | refine W_exit ?_
 | (refine idA ?_;refine m_var rfl rfl rfl rfl rfl rfl rfl ?_)
      all_goals first|contradiction|(exfalso;rename_i hh;simp only at hh;omega)|skip
      refine WL_freeze 0 rfl ?_
      repeat' first
 | (apply p1 (hd:=rfl);case hop=>first|(apply D_move;rfl)|(apply D_assign;rfl)|(apply D_pc hln;rfl;exact .same rfl .nil)|(apply D_int;rfl;rfl;rfl))
 | refine W_seq ?_
 | refine W_region ?_
 | (refine idC ?_;refine cs rfl (fun _=>?_) (fun _=>?_))
 | refine WL_nil ?_
 | refine tn ?_
 | refine tr ?_
 | refine W_skip ?_
 | refine W_ret ?_
 | (refine idR ?_;refine ret2 rfl rfl rfl rfl ?_ ?_)
 | (refine Le.int ?_)
      all_goals first
        | (exfalso;rename_i hh;omega)
        | rfl
        | (rw [show xA (some (addsT T0 l)) = .ep [.sc (.pointer none),oT (T 1),oT (T 2),oT (T 3),oT (T 4)] by
             rw [xA_so,← hT 1 (by omega) (by omega),← hT 2 (by omega) (by omega),← hT 3 (by omega) (by omega),← hT 4 (by omega) (by omega)]]
           exact Le.of_eq rfl)
        | skip
  · have e0 : T0 = T1:=hT0
    rw [xA_so]
    repeat' first
 | (refine m_box rfl rfl rfl ?_)
 | (refine pS (S_store rfl rfl rfl rfl rfl (one_ix _) rfl) ?_)
 | (apply p1 (hd:=rfl);case hop=>first|(apply D_move;rfl)|(apply D_assign;rfl)|exact D_pnE rfl rfl|exact D_nilE rfl|(apply D_fld;rfl)|(apply D_lenM;rfl)|(apply D_loadW;rfl;rfl)|exact D_build rfl|exact D_fldB rfl|(apply D_nilB;rfl))
 | refine W_seq ?_
 | refine W_region ?_
 | (refine idC ?_;refine c1 rfl ?_)
 | refine WL_nil ?_
 | refine tn ?_
 | (refine W_block ?_)
    refine W_loopL (X:=Nat × Ix) (fun c=>[(6,.bp 0 0),(24,sl9 l),(25,.sc (.int .i64 (l.length : Int))),(26,.sc (.int .i64 (c.1 : Int)))]) (fun c=>[.cells (ixC c.2)])
      (fun c=>(c.1 ≤ l.length ∧ ∀ (j : Nat) (h : j < l.length),j < c.1 → dmayP l[j]) ∧ ∀ o,1 ≤ o → o ≤ 4 → c.2 o = addsT T0 (l.take c.1) o) (fun c=>l.length - c.1) (0,T0) ⟨⟨Nat.zero_le _,fun j h hj=>absurd hj (Nat.not_lt_zero j)⟩,fun o _ _=>by simp [addsT]⟩ ⟨rfl,rfl,rfl,rfl,trivial⟩ (by rw [e0];rfl) ?_
    rintro ⟨i,T⟩ ⟨⟨hi,hz2⟩,hT⟩
    simp only at hi hz2 hT
    by_cases hil : i < l.length
    · have hc:=dcheck_pc (l[i]'hil) (hb _ (List.getElem_mem _))
      by_cases hm : dmayP (l[i]'hil)
      · rw [← dP_T hm,if_pos rfl] at hc
        repeat' first
 | (apply p1 (hd:=rfl);case hop=>first|(apply D_move;rfl)|(apply D_assign;rfl)|(apply D_pc hc;rfl;exact .same rfl .nil)|(apply D_int;rfl;rfl;rfl)|(apply D_loadW;rfl;rfl)|(apply D_idxAn;rfl;rfl;(first|omega|(simp;done))))
 | refine W_seq ?_
 | refine W_region ?_
 | (refine idC ?_;refine cs rfl (fun _=>?_) (fun _=>?_))
 | refine WL_nil ?_
 | refine tn ?_
 | refine tr ?_
 | refine br ?_
 | refine te ?_
 | (refine idB ?_;refine bh rfl ?_)
 | refine W_skip ?_
 | refine W_block ?_
 | refine W_exit ?_
 | refine W_ret ?_
 | (refine idR ?_;refine ret2 rfl rfl rfl rfl ?_ ?_)
 | (refine idA ?_;refine m_var rfl rfl rfl rfl rfl rfl rfl ?_)
 | (refine Le.int ?_)
        all_goals first|contradiction|(exfalso;rename_i hh;simp only at hh;omega)|skip
        refine W_loopL (X:=Nat × Ix) (fun c=>[(6,.bp 0 0),(8,.ep (dC (l[i]'hil))),(9,.sc (.int .i64 (c.1 : Int))),(24,sl9 l),(25,.sc (.int .i64 (l.length : Int))),(26,.sc (.int .i64 (i : Int)))]) (fun c=>[.cells (ixC c.2)])
          (fun c=>(1 ≤ c.1 ∧ c.1 ≤ 5) ∧ ∀ j,1 ≤ j → j ≤ 4 → c.2 j = if j < c.1 then addT T (l[i]'hil) j else T j) (fun c=>5 - c.1) (1,T) ⟨⟨Nat.le_refl 1,by show 1 ≤ 5;omega⟩,fun j h1 h2=>by show T j = _;rw [if_neg (show ¬ j < 1 by omega)]⟩ ⟨rfl,rfl,rfl,rfl,rfl,rfl,trivial⟩ rfl ?_
        rintro ⟨o,S⟩ ⟨⟨ho1,ho5⟩,hS⟩
        simp only at ho1 ho5 hS
        by_cases ho : o ≤ 4
        · have hk:=dkey_pc (o : Int) (l[i]'hil) (hb _ (List.getElem_mem _))
          have hSo : S o = T o:=by rw [hS o ho1 ho,if_neg (Nat.lt_irrefl o)]
          have hlt : (List.take i l).length ≤ l.length:=by rw [List.length_take];omega
          have htr : TreeOf o (L ++ l.take i) (S o):=by rw [hSo,hT o ho1 ho];exact hx.adds (l.take i) (by omega) o ho1 ho
          have hsz : sz (topT (S o)) ≤ 262144:=by have:=htr.len;rw [List.length_append] at this;omega
          by_cases he : dkeyE o (l[i]'hil) = 0
          · have hp:=tput_pc (dkeyB o (l[i]'hil)) [] (S o) htr.ok (by omega) (dkey_len _ _) (by simp) (.inl (by omega))
            have ha : addT T (l[i]'hil) o = some (putT (dkeyB o (l[i]'hil)) [] (topT (S o))):=by unfold addT;rw [if_pos he,hSo]
            rw [he] at hk
            have hS2 : ∀ j,1 ≤ j → j ≤ 4 → (fun j=>if j = o then some (putT (dkeyB (o : Int) (l[i]'hil)) [] (topT (S o))) else S j) j = if j < o + 1 then addT T (l[i]'hil) j else T j:=fun j h1 h2=>by
              simp only
              by_cases hj : j = o
              · subst hj;rw [if_pos rfl,if_pos (Nat.lt_succ_self j),ha]
              · rw [if_neg hj,hS j h1 h2]
                by_cases hj2 : j < o
                · rw [if_pos hj2,if_pos (by omega)]
                · rw [if_neg hj2,if_neg (by omega)]
            rcases (by omega : o = 1 ∨ o = 2 ∨ o = 3 ∨ o = 4) with rfl|rfl|rfl|rfl
            · repeat' first
 | (refine pS (S_store rfl rfl (cells_oT _) rfl rfl (one_oT1 _) rfl) ?_)
 | (apply p1 (hd:=rfl);case hop=>first|(apply D_move;rfl)|(apply D_assign;rfl)|(apply D_pc hk;rfl;exact .same rfl (.same rfl .nil))|(apply D_pc hp;rfl;exact .same rfl (.same rfl (.niln rfl .nil)))|(apply D_int;rfl;rfl;rfl)|(apply D_ext;rfl;rfl)|(apply D_loadW;rfl;rfl)|exact D_fldB rfl|(apply D_nilB;rfl)|(apply D_ixPB;rfl;rfl;all_goals first|omega|((repeat rw [w64 _ (by omega) (by omega)]);omega)|decide))
 | refine W_seq ?_
 | refine W_region ?_
 | (refine idC ?_;refine cs rfl (fun _=>?_) (fun _=>?_))
 | refine WL_nil ?_
 | refine tn ?_
 | refine tr ?_
 | refine br ?_
 | refine bn ?_
 | refine te ?_
 | (refine idB ?_;refine bh rfl ?_)
 | refine W_skip ?_
 | refine W_block ?_
 | refine W_exit ?_
 | refine W_ret ?_
 | (refine idR ?_;refine ret2 rfl rfl rfl rfl ?_ ?_)
 | (refine idLd ?_;refine p1L (D_loadB1 rfl rfl rfl) rfl ?_)
 | (refine Le.int ?_)
              all_goals first
                | contradiction
                | (exfalso;rename_i hh;simp only at hh;omega)
                | exact ⟨rfl,(1 + 1,fun j=>if j = 1 then some (putT (dkeyB ((1 : Nat) : Int) (l[i]'hil)) [] (topT (S 1))) else S j),⟨⟨by show 1 ≤ 1 + 1;omega,by show 1 + 1 ≤ 5;omega⟩,hS2⟩,by show 5 - (1 + 1) < 5 - 1;omega,⟨rfl,rfl,rfl,rfl,rfl,rfl,trivial⟩,rfl⟩
                | skip
            · repeat' first
 | (refine pS (S_store rfl rfl (cells_oT _) rfl rfl (one_oT1 _) rfl) ?_)
 | (apply p1 (hd:=rfl);case hop=>first|(apply D_move;rfl)|(apply D_assign;rfl)|(apply D_pc hk;rfl;exact .same rfl (.same rfl .nil))|(apply D_pc hp;rfl;exact .same rfl (.same rfl (.niln rfl .nil)))|(apply D_int;rfl;rfl;rfl)|(apply D_ext;rfl;rfl)|(apply D_loadW;rfl;rfl)|exact D_fldB rfl|(apply D_nilB;rfl)|(apply D_ixPB;rfl;rfl;all_goals first|omega|((repeat rw [w64 _ (by omega) (by omega)]);omega)|decide))
 | refine W_seq ?_
 | refine W_region ?_
 | (refine idC ?_;refine cs rfl (fun _=>?_) (fun _=>?_))
 | refine WL_nil ?_
 | refine tn ?_
 | refine tr ?_
 | refine br ?_
 | refine bn ?_
 | refine te ?_
 | (refine idB ?_;refine bh rfl ?_)
 | refine W_skip ?_
 | refine W_block ?_
 | refine W_exit ?_
 | refine W_ret ?_
 | (refine idR ?_;refine ret2 rfl rfl rfl rfl ?_ ?_)
 | (refine idLd ?_;refine p1L (D_loadB1 rfl rfl rfl) rfl ?_)
 | (refine Le.int ?_)
              all_goals first
                | contradiction
                | (exfalso;rename_i hh;simp only at hh;omega)
                | exact ⟨rfl,(2 + 1,fun j=>if j = 2 then some (putT (dkeyB ((2 : Nat) : Int) (l[i]'hil)) [] (topT (S 2))) else S j),⟨⟨by show 1 ≤ 2 + 1;omega,by show 2 + 1 ≤ 5;omega⟩,hS2⟩,by show 5 - (2 + 1) < 5 - 2;omega,⟨rfl,rfl,rfl,rfl,rfl,rfl,trivial⟩,rfl⟩
                | skip
            · repeat' first
 | (refine pS (S_store rfl rfl (cells_oT _) rfl rfl (one_oT1 _) rfl) ?_)
 | (apply p1 (hd:=rfl);case hop=>first|(apply D_move;rfl)|(apply D_assign;rfl)|(apply D_pc hk;rfl;exact .same rfl (.same rfl .nil))|(apply D_pc hp;rfl;exact .same rfl (.same rfl (.niln rfl .nil)))|(apply D_int;rfl;rfl;rfl)|(apply D_ext;rfl;rfl)|(apply D_loadW;rfl;rfl)|exact D_fldB rfl|(apply D_nilB;rfl)|(apply D_ixPB;rfl;rfl;all_goals first|omega|((repeat rw [w64 _ (by omega) (by omega)]);omega)|decide))
 | refine W_seq ?_
 | refine W_region ?_
 | (refine idC ?_;refine cs rfl (fun _=>?_) (fun _=>?_))
 | refine WL_nil ?_
 | refine tn ?_
 | refine tr ?_
 | refine br ?_
 | refine bn ?_
 | refine te ?_
 | (refine idB ?_;refine bh rfl ?_)
 | refine W_skip ?_
 | refine W_block ?_
 | refine W_exit ?_
 | refine W_ret ?_
 | (refine idR ?_;refine ret2 rfl rfl rfl rfl ?_ ?_)
 | (refine idLd ?_;refine p1L (D_loadB1 rfl rfl rfl) rfl ?_)
 | (refine Le.int ?_)
              all_goals first
                | contradiction
                | (exfalso;rename_i hh;simp only at hh;omega)
                | exact ⟨rfl,(3 + 1,fun j=>if j = 3 then some (putT (dkeyB ((3 : Nat) : Int) (l[i]'hil)) [] (topT (S 3))) else S j),⟨⟨by show 1 ≤ 3 + 1;omega,by show 3 + 1 ≤ 5;omega⟩,hS2⟩,by show 5 - (3 + 1) < 5 - 3;omega,⟨rfl,rfl,rfl,rfl,rfl,rfl,trivial⟩,rfl⟩
                | skip
            · repeat' first
 | (refine pS (S_store rfl rfl (cells_oT _) rfl rfl (one_oT1 _) rfl) ?_)
 | (apply p1 (hd:=rfl);case hop=>first|(apply D_move;rfl)|(apply D_assign;rfl)|(apply D_pc hk;rfl;exact .same rfl (.same rfl .nil))|(apply D_pc hp;rfl;exact .same rfl (.same rfl (.niln rfl .nil)))|(apply D_int;rfl;rfl;rfl)|(apply D_ext;rfl;rfl)|(apply D_loadW;rfl;rfl)|exact D_fldB rfl|(apply D_nilB;rfl)|(apply D_ixPB;rfl;rfl;all_goals first|omega|((repeat rw [w64 _ (by omega) (by omega)]);omega)|decide))
 | refine W_seq ?_
 | refine W_region ?_
 | (refine idC ?_;refine cs rfl (fun _=>?_) (fun _=>?_))
 | refine WL_nil ?_
 | refine tn ?_
 | refine tr ?_
 | refine br ?_
 | refine bn ?_
 | refine te ?_
 | (refine idB ?_;refine bh rfl ?_)
 | refine W_skip ?_
 | refine W_block ?_
 | refine W_exit ?_
 | refine W_ret ?_
 | (refine idR ?_;refine ret2 rfl rfl rfl rfl ?_ ?_)
 | (refine idLd ?_;refine p1L (D_loadB1 rfl rfl rfl) rfl ?_)
 | (refine Le.int ?_)
              all_goals first
                | contradiction
                | (exfalso;rename_i hh;simp only at hh;omega)
                | exact ⟨rfl,(4 + 1,fun j=>if j = 4 then some (putT (dkeyB ((4 : Nat) : Int) (l[i]'hil)) [] (topT (S 4))) else S j),⟨⟨by show 1 ≤ 4 + 1;omega,by show 4 + 1 ≤ 5;omega⟩,hS2⟩,by show 5 - (4 + 1) < 5 - 4;omega,⟨rfl,rfl,rfl,rfl,rfl,rfl,trivial⟩,rfl⟩
                | skip
          · have hS3 : ∀ j,1 ≤ j → j ≤ 4 → S j = if j < o + 1 then addT T (l[i]'hil) j else T j:=fun j h1 h2=>by
              rw [hS j h1 h2]
              by_cases hj : j = o
              · subst hj;rw [if_neg (Nat.lt_irrefl j),if_pos (Nat.lt_succ_self j)];unfold addT;rw [if_neg he]
              · by_cases hj2 : j < o
                · rw [if_pos hj2,if_pos (by omega)]
                · rw [if_neg hj2,if_neg (by omega)]
            rcases (by omega : o = 1 ∨ o = 2 ∨ o = 3 ∨ o = 4) with rfl|rfl|rfl|rfl
            · repeat' first
 | (apply p1 (hd:=rfl);case hop=>first|(apply D_move;rfl)|(apply D_assign;rfl)|(apply D_pc hk;rfl;exact .same rfl (.same rfl .nil))|(apply D_int;rfl;rfl;rfl)|(apply D_ext;rfl;rfl)|(apply D_loadW;rfl;rfl)|exact D_fldB rfl|(apply D_nilB;rfl)|(apply D_ixPB;rfl;rfl;all_goals first|omega|((repeat rw [w64 _ (by omega) (by omega)]);omega)|decide))
 | refine W_seq ?_
 | refine W_region ?_
 | (refine idC ?_;refine cs rfl (fun _=>?_) (fun _=>?_))
 | refine WL_nil ?_
 | refine tn ?_
 | refine bn ?_
 | refine te ?_
 | (refine idB ?_;refine bh rfl ?_)
 | refine W_skip ?_
 | refine W_block ?_
 | refine W_exit ?_
 | (refine idLd ?_;refine p1L (D_loadB1 rfl rfl rfl) rfl ?_)
              all_goals first
                | contradiction
                | (exfalso;rename_i hh;simp only at hh;omega)
                | (exfalso;rename_i hh;exact he hh)
                | exact ⟨rfl,(1 + 1,S),⟨⟨by show 1 ≤ 1 + 1;omega,by show 1 + 1 ≤ 5;omega⟩,hS3⟩,by show 5 - (1 + 1) < 5 - 1;omega,⟨rfl,rfl,rfl,rfl,rfl,rfl,trivial⟩,rfl⟩
                | skip
            · repeat' first
 | (apply p1 (hd:=rfl);case hop=>first|(apply D_move;rfl)|(apply D_assign;rfl)|(apply D_pc hk;rfl;exact .same rfl (.same rfl .nil))|(apply D_int;rfl;rfl;rfl)|(apply D_ext;rfl;rfl)|(apply D_loadW;rfl;rfl)|exact D_fldB rfl|(apply D_nilB;rfl)|(apply D_ixPB;rfl;rfl;all_goals first|omega|((repeat rw [w64 _ (by omega) (by omega)]);omega)|decide))
 | refine W_seq ?_
 | refine W_region ?_
 | (refine idC ?_;refine cs rfl (fun _=>?_) (fun _=>?_))
 | refine WL_nil ?_
 | refine tn ?_
 | refine bn ?_
 | refine te ?_
 | (refine idB ?_;refine bh rfl ?_)
 | refine W_skip ?_
 | refine W_block ?_
 | refine W_exit ?_
 | (refine idLd ?_;refine p1L (D_loadB1 rfl rfl rfl) rfl ?_)
              all_goals first
                | contradiction
                | (exfalso;rename_i hh;simp only at hh;omega)
                | (exfalso;rename_i hh;exact he hh)
                | exact ⟨rfl,(2 + 1,S),⟨⟨by show 1 ≤ 2 + 1;omega,by show 2 + 1 ≤ 5;omega⟩,hS3⟩,by show 5 - (2 + 1) < 5 - 2;omega,⟨rfl,rfl,rfl,rfl,rfl,rfl,trivial⟩,rfl⟩
                | skip
            · repeat' first
 | (apply p1 (hd:=rfl);case hop=>first|(apply D_move;rfl)|(apply D_assign;rfl)|(apply D_pc hk;rfl;exact .same rfl (.same rfl .nil))|(apply D_int;rfl;rfl;rfl)|(apply D_ext;rfl;rfl)|(apply D_loadW;rfl;rfl)|exact D_fldB rfl|(apply D_nilB;rfl)|(apply D_ixPB;rfl;rfl;all_goals first|omega|((repeat rw [w64 _ (by omega) (by omega)]);omega)|decide))
 | refine W_seq ?_
 | refine W_region ?_
 | (refine idC ?_;refine cs rfl (fun _=>?_) (fun _=>?_))
 | refine WL_nil ?_
 | refine tn ?_
 | refine bn ?_
 | refine te ?_
 | (refine idB ?_;refine bh rfl ?_)
 | refine W_skip ?_
 | refine W_block ?_
 | refine W_exit ?_
 | (refine idLd ?_;refine p1L (D_loadB1 rfl rfl rfl) rfl ?_)
              all_goals first
                | contradiction
                | (exfalso;rename_i hh;simp only at hh;omega)
                | (exfalso;rename_i hh;exact he hh)
                | exact ⟨rfl,(3 + 1,S),⟨⟨by show 1 ≤ 3 + 1;omega,by show 3 + 1 ≤ 5;omega⟩,hS3⟩,by show 5 - (3 + 1) < 5 - 3;omega,⟨rfl,rfl,rfl,rfl,rfl,rfl,trivial⟩,rfl⟩
                | skip
            · repeat' first
 | (apply p1 (hd:=rfl);case hop=>first|(apply D_move;rfl)|(apply D_assign;rfl)|(apply D_pc hk;rfl;exact .same rfl (.same rfl .nil))|(apply D_int;rfl;rfl;rfl)|(apply D_ext;rfl;rfl)|(apply D_loadW;rfl;rfl)|exact D_fldB rfl|(apply D_nilB;rfl)|(apply D_ixPB;rfl;rfl;all_goals first|omega|((repeat rw [w64 _ (by omega) (by omega)]);omega)|decide))
 | refine W_seq ?_
 | refine W_region ?_
 | (refine idC ?_;refine cs rfl (fun _=>?_) (fun _=>?_))
 | refine WL_nil ?_
 | refine tn ?_
 | refine bn ?_
 | refine te ?_
 | (refine idB ?_;refine bh rfl ?_)
 | refine W_skip ?_
 | refine W_block ?_
 | refine W_exit ?_
 | (refine idLd ?_;refine p1L (D_loadB1 rfl rfl rfl) rfl ?_)
              all_goals first
                | contradiction
                | (exfalso;rename_i hh;simp only at hh;omega)
                | (exfalso;rename_i hh;exact he hh)
                | exact ⟨rfl,(4 + 1,S),⟨⟨by show 1 ≤ 4 + 1;omega,by show 4 + 1 ≤ 5;omega⟩,hS3⟩,by show 5 - (4 + 1) < 5 - 4;omega,⟨rfl,rfl,rfl,rfl,rfl,rfl,trivial⟩,rfl⟩
                | skip
        · have e2 : o = 5:=by omega
          subst e2
          repeat' first
 | (apply p1 (hd:=rfl);case hop=>first|(apply D_move;rfl)|(apply D_int;rfl;rfl;rfl)|(apply D_loadW;rfl;rfl))
 | refine W_seq ?_
 | refine W_region ?_
 | (refine idC ?_;refine cs rfl (fun _=>?_) (fun _=>?_))
 | refine WL_nil ?_
 | refine tn ?_
 | refine bn ?_
 | refine te ?_
 | (refine idB ?_;refine bh rfl ?_)
 | refine W_skip ?_
 | refine W_block ?_
 | (refine W_exit ?_)
          all_goals first
            | contradiction
            | (exfalso;rename_i hh;simp only at hh;omega)
            | exact ⟨rfl,(i + 1,S),⟨⟨hil,fun j hj hji=>by
                by_cases e : j = i
                · subst e;exact hm
                · exact hz2 j hj (by have : j < i + 1:=hji;omega)⟩,fun j h1 h2=>by
                show S j = addsT T0 (l.take (i + 1)) j
                rw [addsT_snoc _ _ _ hil,hS j h1 h2,if_pos (by omega)]
                exact addT_congr (hT j h1 h2)⟩,by show l.length - (i + 1) < l.length - i;omega,⟨rfl,rfl,rfl,ieq (wsucc i (by omega)),trivial⟩,rfl⟩
            | skip
      · obtain ⟨rfl,rfl⟩:=hn ⟨_,List.getElem_mem hil,hm⟩
        rw [← dP_F hm,if_neg (by decide)] at hc
        repeat' first
 | (apply p1 (hd:=rfl);case hop=>first|(apply D_move;rfl)|(apply D_assign;rfl)|(apply D_pc hc;rfl;exact .same rfl .nil)|(apply D_int;rfl;rfl;rfl)|(apply D_loadW;rfl;rfl)|(apply D_idxAn;rfl;rfl;(first|omega|(simp;done))))
 | refine W_seq ?_
 | refine W_region ?_
 | (refine idC ?_;refine cs rfl (fun _=>?_) (fun _=>?_))
 | refine WL_nil ?_
 | refine tn ?_
 | refine tr ?_
 | refine br ?_
 | refine te ?_
 | (refine idB ?_;refine bh rfl ?_)
 | refine W_skip ?_
 | refine W_block ?_
 | refine W_exit ?_
 | refine W_ret ?_
 | (refine idR ?_;refine ret2 rfl rfl rfl rfl ?_ ?_)
 | (refine idA ?_;refine m_var rfl rfl rfl rfl rfl rfl rfl ?_)
 | (refine Le.int ?_)
        all_goals first|contradiction|(exfalso;rename_i hh;simp only at hh;omega)|exact Le.of_eq rfl|rfl|skip
    · have e1 : i = l.length:=by omega
      subst e1
      rw [List.take_length] at hT
      obtain ⟨rfl,rfl⟩:=hg fun d hd=>by
        obtain ⟨j,hj,rfl⟩:=List.getElem_of_mem hd
        exact hz2 j hj hj
      have hxl:=hx.adds l (by omega)
      have hln:=ilen_pc (some T)
      have ho:=okT_deep (hxl 1 (by omega) (by omega)).ok
      have hle:=(hxl 1 (by omega) (by omega)).len
      rw [← hT 1 (by omega) (by omega)] at ho hle
      rw [List.length_append] at hle
      have hmm : manyT (topT (topI (some T) 1)) ≤ 262144:=by
        show manyT (topT (T 1)) ≤ 262144
        rw [ho.2];omega
      rw [xA_so] at hln
      repeat' first
 | (apply p1 (hd:=rfl);case hop=>first|(apply D_move;rfl)|(apply D_int;rfl;rfl;rfl)|(apply D_loadW;rfl;rfl)|(apply D_idxAn;rfl;rfl;(first|omega|(simp;done))))
 | refine W_seq ?_
 | refine W_region ?_
 | (refine idC ?_;refine cs rfl (fun _=>?_) (fun _=>?_))
 | refine WL_nil ?_
 | refine tn ?_
 | refine te ?_
 | (refine idB ?_;refine bh rfl ?_)
 | refine W_skip ?_
 | refine W_block ?_
 | refine W_exit ?_
 | (refine idA ?_;refine m_var rfl rfl rfl rfl rfl rfl rfl ?_)
      all_goals first|contradiction|(exfalso;rename_i hh;simp only at hh;omega)|skip
      refine WL_freeze 0 rfl ?_
      repeat' first
 | (apply p1 (hd:=rfl);case hop=>first|(apply D_move;rfl)|(apply D_assign;rfl)|(apply D_pc hln;rfl;exact .same rfl .nil)|(apply D_int;rfl;rfl;rfl))
 | refine W_seq ?_
 | refine W_region ?_
 | (refine idC ?_;refine cs rfl (fun _=>?_) (fun _=>?_))
 | refine WL_nil ?_
 | refine tn ?_
 | refine tr ?_
 | refine W_skip ?_
 | refine W_ret ?_
 | (refine idR ?_;refine ret2 rfl rfl rfl rfl ?_ ?_)
 | (refine Le.int ?_)
      all_goals first
        | (exfalso;rename_i hh;omega)
        | rfl
        | (rw [show xA (some (addsT T0 l)) = .ep [.sc (.pointer none),oT (T 1),oT (T 2),oT (T 3),oT (T 4)] by
             rw [xA_so,← hT 1 (by omega) (by omega),← hT 2 (by omega) (by omega),← hT 3 (by omega) (by omega),← hT 4 (by omega) (by omega)]]
           exact Le.of_eq rfl)
        | skip
end Go.Proofs
