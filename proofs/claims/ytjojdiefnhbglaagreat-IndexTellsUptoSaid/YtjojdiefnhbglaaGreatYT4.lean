/- Contracts of tree's functions: found, counted, put, at a place. -/
import Derived.Test.YtjojdiefnhbglaaGreatOps30
import Derived.Test.YtjojdiefnhbglaaGreatOps12
set_option linter.all false
namespace Go.Proofs
open Go.AL Go.Sort
attribute [local irreducible] Go.AL.W Go.AL.WL Go.AL.WD Go.AL.POp Go.AL.PPOp Go.AL.POpS Go.AL.PC Go.AL.AC Go.AL.YW Go.AL.Ret Go.AL.Le Go.AL.thn Go.AL.inBlk Go.AL.scp
def oT : Option Tr → AV
  | none=>.sc (.pointer none)
  | some t=>.ep [tA t]
theorem oT_no : oT none = .sc (.pointer none):=by rw [oT]
theorem oT_so (t : Tr) : oT (some t) = .ep [tA t]:=by rw [oT]
theorem pur_oT (o : Option Tr) : Pur (oT o):=by
  cases o with
  | none=>rw [oT_no];infer_instance
  | some t=>rw [oT_so];infer_instance
instance (o : Option Tr) : Pur (oT o):=pur_oT o
def topT (o : Option Tr) : Tr:=o.getD .no
set_option maxHeartbeats 4000000 in
theorem root_pc [GlobF Tryz.prog] (o : Option Tr) : PC Tryz.prog 91 [oT o] (tA (topT o)):=by
  cases o with
  | none =>
    rw [oT_no]
    show PC _ _ _ (tA .no)
    rw [tA_no]
    refine PC.of_body Tryz.func91 Tryz.ntmps91 rfl rfl rfl ?_
    repeat' first
 | (apply p1 (hd:=rfl);case hop=>first|(apply D_move;rfl)|(apply D_assign;rfl)|exact D_peN rfl rfl)
 | refine W_seq ?_
 | refine W_region ?_
 | (refine idC ?_;refine c1 rfl ?_)
 | refine WL_nil ?_
 | refine tn ?_
 | refine tr ?_
 | refine W_ret ?_
 | (refine idR ?_;refine ret1 rfl rfl rfl ?_)
    all_goals first|rfl|exact Le.of_eq rfl|contradiction|skip
  | some t =>
    rw [oT_so]
    show PC _ _ _ (tA t)
    refine PC.of_body Tryz.func91 Tryz.ntmps91 rfl rfl rfl ?_
    repeat' first
 | (apply p1 (hd:=rfl);case hop=>first|(apply D_move;rfl)|(apply D_assign;rfl)|exact D_peE rfl rfl|exact D_nilE rfl|(apply D_load1;rfl)|(apply D_fld;rfl))
 | refine W_seq ?_
 | refine W_region ?_
 | (refine idC ?_;refine c0 rfl ?_)
 | refine WL_nil ?_
 | refine tn ?_
 | refine W_skip ?_
 | refine W_ret ?_
 | (refine idR ?_;refine ret1 rfl rfl rfl ?_)
    all_goals first|rfl|exact Le.of_eq rfl|contradiction|skip
set_option maxHeartbeats 4000000 in
theorem tlen_pc [GlobF Tryz.prog] (o : Option Tr) : PC Tryz.prog 96 [oT o] (.sc (.int .i64 (manyT (topT o)))):=by
  have h1:=root_pc o
  have h2:=many_pc (topT o)
  refine PC.of_body Tryz.func96 Tryz.ntmps96 rfl rfl rfl ?_
  repeat' first
 | (apply p1 (hd:=rfl);case hop=>first|(apply D_move;rfl)|(apply D_assign;rfl)|(apply D_pc h1;rfl;exact .same rfl .nil)|(apply D_pc h2;rfl;exact .same rfl .nil))
 | refine W_seq ?_
 | refine W_region ?_
 | refine WL_nil ?_
 | refine tn ?_
 | refine W_ret ?_
 | (refine idR ?_;refine ret1 rfl rfl rfl ?_)
 | (refine Le.int ?_)
  all_goals first|rfl|exact Le.of_eq rfl|contradiction|skip
def findT (key : List UInt8) : Tr → Tr
  | .no=>.no
  | .nd k v l r d m=>if cbB key k < 0 then findT key l else if 0 < cbB key k then findT key r else .nd k v l r d m
theorem find_nd (key k v : List UInt8) (l r : Tr) (d m : Int) : findT key (.nd k v l r d m) = if cbB key k < 0 then findT key l else if 0 < cbB key k then findT key r else .nd k v l r d m:=by rw [findT]
set_option maxHeartbeats 8000000 in
theorem find_pc [GlobF Tryz.prog] (key : List UInt8) (t : Tr) : PC Tryz.prog 93 [tA t,bsA key] (tA (findT key t)):=by
  refine PC.of_body Tryz.func93 Tryz.ntmps93 rfl rfl rfl ?_
  repeat' first
 | (apply p1 (hd:=rfl);case hop=>first|(apply D_assign;rfl))
 | refine W_seq ?_
 | refine W_region ?_
 | refine WL_nil ?_
 | refine tn ?_
 | refine W_block ?_
 | refine W_label ?_
 | (refine W_scope ?_)
  refine W_loopL (X:=Tr) (fun c=>[(0,tA c),(1,bsA key)]) (fun _=>[])
    (fun c=>findT key c = findT key t) (fun c=>sz c) t rfl ⟨rfl,rfl,trivial⟩ rfl ?_
  intro c hc
  cases c with
  | no =>
    rw [← hc,show findT key .no = .no by rw [findT]]
    simp only [tA_no]
    repeat' first
 | (apply p1 (hd:=rfl);case hop=>first|(apply D_move;rfl)|(apply D_assign;rfl)|exact D_pnN rfl rfl)
 | refine W_seq ?_
 | refine W_region ?_
 | (refine idC ?_;refine c0 rfl ?_)
 | refine WL_nil ?_
 | refine tn ?_
 | refine te ?_
 | (refine idB ?_;refine bh rfl ?_)
 | refine W_exit ?_
 | refine W_ret ?_
 | refine sr ?_
 | (refine idR ?_;refine ret1 rfl rfl rfl ?_)
    all_goals first|rfl|exact Le.of_eq rfl|contradiction|skip
  | nd k v l r d m =>
    have hb:=bcmp_pc key k
    rw [find_nd] at hc
    simp only [tA_nd]
    by_cases c1 : cbB key k < 0
    · rw [if_pos c1] at hc
      repeat' first
 | (apply p1 (hd:=rfl);case hop=>first|(apply D_move;rfl)|(apply D_assign;rfl)|exact D_pnE rfl rfl|exact D_nilE rfl|(apply D_pc hb;rfl;exact .same rfl (.same rfl .nil))|(apply D_load1;rfl)|(apply D_fld;rfl)|(apply D_int;rfl;rfl;rfl))
 | refine W_seq ?_
 | refine W_region ?_
 | (refine idC ?_;refine cs rfl (fun _=>?_) (fun _=>?_))
 | refine WL_nil ?_
 | refine tn ?_
 | refine bn ?_
 | refine te ?_
 | (refine idB ?_;first|refine bh rfl ?_|refine bm rfl ?_)
 | refine W_skip ?_
 | refine W_block ?_
 | refine W_exit ?_
 | refine W_ret ?_
 | refine sr ?_
 | (refine idR ?_;refine ret1 rfl rfl rfl ?_)
      all_goals first
        | contradiction
        | (exfalso;omega)
        | exact ⟨rfl,l,hc,by simp only [sz];omega,⟨rfl,rfl,trivial⟩,rfl⟩
        | skip
    · rw [if_neg c1] at hc
      by_cases c2 : 0 < cbB key k
      · rw [if_pos c2] at hc
        repeat' first
 | (apply p1 (hd:=rfl);case hop=>first|(apply D_move;rfl)|(apply D_assign;rfl)|exact D_pnE rfl rfl|exact D_nilE rfl|(apply D_pc hb;rfl;exact .same rfl (.same rfl .nil))|(apply D_load1;rfl)|(apply D_fld;rfl)|(apply D_int;rfl;rfl;rfl))
 | refine W_seq ?_
 | refine W_region ?_
 | (refine idC ?_;refine cs rfl (fun _=>?_) (fun _=>?_))
 | refine WL_nil ?_
 | refine tn ?_
 | refine bn ?_
 | refine te ?_
 | (refine idB ?_;first|refine bh rfl ?_|refine bm rfl ?_)
 | refine W_skip ?_
 | refine W_block ?_
 | refine W_exit ?_
 | refine W_ret ?_
 | refine sr ?_
 | (refine idR ?_;refine ret1 rfl rfl rfl ?_)
        all_goals first
          | contradiction
          | (exfalso;omega)
          | exact ⟨rfl,r,hc,by simp only [sz];omega,⟨rfl,rfl,trivial⟩,rfl⟩
          | skip
      · rw [if_neg c2] at hc
        rw [← hc,tA_nd]
        repeat' first
 | (apply p1 (hd:=rfl);case hop=>first|(apply D_move;rfl)|(apply D_assign;rfl)|exact D_pnE rfl rfl|exact D_nilE rfl|(apply D_pc hb;rfl;exact .same rfl (.same rfl .nil))|(apply D_load1;rfl)|(apply D_fld;rfl)|(apply D_int;rfl;rfl;rfl))
 | refine W_seq ?_
 | refine W_region ?_
 | (refine idC ?_;refine cs rfl (fun _=>?_) (fun _=>?_))
 | refine WL_nil ?_
 | refine tn ?_
 | refine bn ?_
 | refine te ?_
 | (refine idB ?_;first|refine bh rfl ?_|refine bm rfl ?_)
 | refine W_skip ?_
 | refine W_block ?_
 | refine W_exit ?_
 | refine W_ret ?_
 | refine sr ?_
 | (refine idR ?_;refine ret1 rfl rfl rfl ?_)
        all_goals first
          | contradiction
          | (exfalso;omega)
          | exact Le.of_eq rfl
          | rfl
          | skip
set_option maxHeartbeats 4000000 in
theorem cloneB_pc [GlobF Tryz.prog] (l : List UInt8) (hl : l.length < 70368744177664) : PC Tryz.prog 95 [bsA l] (bsA l):=by
  refine PC.of_body Tryz.func95 Tryz.ntmps95 rfl rfl rfl ?_
  repeat' first
 | (refine m_slnil rfl rfl ?_;rintro b hb)
 | refine m_lit (d:=5) rfl rfl rfl rfl rfl rfl ?_
 | (apply p1 (hd:=rfl);case hop=>first|(apply D_move;rfl)|(apply D_assign;rfl))
 | refine W_seq ?_
 | refine W_region ?_
 | (refine idC ?_;refine cs rfl (fun _=>?_) (fun _=>?_))
 | refine WL_nil ?_
 | refine tn ?_
 | refine tr ?_
 | refine W_skip ?_
 | refine W_ret ?_
 | (refine idR ?_;refine ret1 rfl rfl rfl ?_)
 | (refine idAp ?_;refine m_app rfl rfl (by rfl) ?_ rfl rfl ?_ ?_ rfl ?_;(rfl);(focus (simp only [List.length_map,List.length_append,List.length_cons,List.length_nil];omega));(focus (simp only [List.length_map,List.length_append,List.length_cons,List.length_nil];omega)))
  all_goals first
    | exact Le.tokq rfl
    | (rename_i hb'
       first
         | (have e:=hb hb'
            have e : l = []:=by cases l with
              | nil=>rfl
              | cons x t=>simp at e
            subst e;exact Le.nil rfl)
         | (have e:=hb rfl
            have e : l = []:=by cases l with
              | nil=>rfl
              | cons x t=>simp at e
            subst e;exact Le.nil rfl))
    | skip
end Go.Proofs

namespace Go.Proofs
open Go.AL Go.Sort
attribute [local irreducible] Go.AL.W Go.AL.WL Go.AL.WD Go.AL.POp Go.AL.PPOp Go.AL.POpS Go.AL.PC Go.AL.AC Go.AL.YW Go.AL.Ret Go.AL.Le Go.AL.thn Go.AL.inBlk Go.AL.scp
theorem toL_len : ∀ t : Tr,(toL t).length = sz t
  | .no=>rfl
  | .nd k v l r d m=>by
    have h1:=toL_len l
    have h2:=toL_len r
    simp only [toL,sz,List.length_append,List.length_cons];omega
set_option maxHeartbeats 16000000 in
theorem tput_pc [GlobF Tryz.prog] (key val : List UInt8) (o : Option Tr) (ho : okT (topT o)) (hs : sz (topT o) < 1152921504606846975) (hk : key.length ≤ 4096) (hv : val.length ≤ 65536) (hc : sz (topT o) < 1048576 ∨ findT key (topT o) ≠ .no) :
    PC Tryz.prog 41 [oT o,bsA key,bsA val] (.tu [oT (some (putT key val (topT o))),.sc (.int .i64 0)]):=by
  have h1:=root_pc o
  have h2:=many_pc (topT o)
  have h3:=find_pc key (topT o)
  have h4:=cloneB_pc key (by omega)
  have h5:=cloneB_pc val (by omega)
  have h6:=put_pc key val (topT o) ho (by omega)
  have em:=(okT_deep ho).2
  rw [em] at h2
  generalize topT o = t at *
  generalize hP : putT key val t = PT at *
  rw [oT_so]
  have e1 : Value.bool (iLt 4096 (key.length : Int)) = .bool false:=by rw [(iLt_f _ _).mpr (by omega)]
  have e2 : Value.bool (iLt 65536 (val.length : Int)) = .bool false:=by rw [(iLt_f _ _).mpr (by omega)]
  have hb:=@fillO_cons
  by_cases c : sz t < 1048576
  · have e3 : Value.bool (iLe 1048576 (sz t : Int)) = .bool false:=by rw [(iLe_f _ _).mpr (by omega)]
    refine PC.of_body Tryz.func41 Tryz.ntmps41 rfl rfl rfl ?_
    repeat' first
 | (apply p1 (hd:=rfl);case hop=>first|(apply D_move;rfl)|(apply D_assign;rfl)|exact D_build (fillO_cons rfl rfl (cells_tA PT) rfl rfl)|(apply D_pc h1;rfl;exact .same rfl .nil)|(apply D_pc h2;rfl;exact .same rfl .nil)|(apply D_pc h4;rfl;exact .same rfl .nil)|(apply D_pc h5;rfl;exact .same rfl .nil)|(apply D_pc h6;rfl;exact .same rfl (.same rfl (.same rfl .nil)))|exact D_sc (D_int rfl rfl rfl) e1|exact D_sc (D_int rfl rfl rfl) e2|exact D_sc (D_int rfl rfl rfl) e3|(apply D_pickF;rfl;rfl)|(apply D_lenM;rfl)|(apply D_box;rfl;rfl))
 | refine W_seq ?_
 | refine W_region ?_
 | (refine idC ?_;refine c0 rfl ?_)
 | refine WL_nil ?_
 | (refine idG ?_;first|refine g0t rfl rfl rfl ?_|refine gr rfl rfl ?_)
 | refine tn ?_
 | refine W_skip ?_
 | refine W_ret ?_
 | (refine idR ?_;refine ret2 rfl rfl rfl rfl ?_ ?_)
 | (refine Le.int ?_)
    all_goals first|exact Le.of_eq rfl|rfl|contradiction|(exfalso;omega)|skip
  · have hne:=hc.resolve_left c
    have e3 : Value.bool (iLe 1048576 (sz t : Int)) = .bool true:=by rw [(iLe_t _ _).mpr (by omega)]
    cases hF : findT key t with
    | no=>exact absurd hF hne
    | nd fk fv fl fr fd fm =>
      rw [hF,tA_nd] at h3
      refine PC.of_body Tryz.func41 Tryz.ntmps41 rfl rfl rfl ?_
      repeat' first
 | (apply p1 (hd:=rfl);case hop=>first|(apply D_move;rfl)|(apply D_assign;rfl)|exact D_build (fillO_cons rfl rfl (cells_tA PT) rfl rfl)|exact D_peE rfl rfl|(apply D_pc h1;rfl;exact .same rfl .nil)|(apply D_pc h2;rfl;exact .same rfl .nil)|(apply D_pc h3;rfl;exact .same rfl (.same rfl .nil))|(apply D_pc h4;rfl;exact .same rfl .nil)|(apply D_pc h5;rfl;exact .same rfl .nil)|(apply D_pc h6;rfl;exact .same rfl (.same rfl (.same rfl .nil)))|exact D_sc (D_int rfl rfl rfl) e1|exact D_sc (D_int rfl rfl rfl) e2|exact D_sc (D_int rfl rfl rfl) e3|(apply D_pickT;rfl;rfl)|(apply D_pickF;rfl;rfl)|(apply D_lenM;rfl)|(apply D_box;rfl;rfl))
 | refine W_seq ?_
 | refine W_region ?_
 | (refine idC ?_;refine c0 rfl ?_)
 | refine WL_nil ?_
 | (refine idG ?_;refine gr rfl rfl ?_)
 | refine tn ?_
 | refine W_skip ?_
 | refine W_ret ?_
 | (refine idR ?_;refine ret2 rfl rfl rfl rfl ?_ ?_)
 | (refine Le.int ?_)
      all_goals first|exact Le.of_eq rfl|rfl|contradiction|(exfalso;omega)|skip
end Go.Proofs

namespace Go.AL
theorem fn_inv {G : Gh} {v : Value} {f : FuncId} {ys : List AV} (h : Conc G v (.fn (.func f) [] ys)) (hz : LeL ys ys) : ∃ cb : List Value,v = .func (.func f) #[] cb.toArray ∧ ConcL (Gh.of G.imm) cb ys:=by
  cases h with
  | @fn _ fs cs _ _ l1 l2 h1 h2 =>
    have : fs = []:=by simpa using l1
    subst this
    exact ⟨cs,rfl,hz.conc ⟨l2,h2⟩⟩
theorem sort_none_ac {P : Program} [GlobF P] {ρ : Shelf.Ren} (L : Go.Proofs.SlLaysF0.n6 P ρ) (r q : Nat) (F : AV) (h : List AObj) : AC P (ρ.f 6) [.mr r q 0,F] h (fun v h'=>v = .tu [] ∧ h' = h):=by
  refine ⟨L.f6.enters rfl,fun B G w vs hr hc=>?_⟩
  obtain ⟨v1,vs1,rfl,c1,hc1⟩:=hc.inv_cons
  obtain ⟨v2,vs2,rfl,c2,hc2⟩:=hc1.inv_cons
  have:=hc2.inv_nil
  subst this
  obtain ⟨b,o',cap,rfl,hb,hcap,hq⟩:=mr_inv c1
  refine (Go.Proofs.AnyF.slices_SortFunc_none L _ cap v2 w).mono ?_
  rintro e w' ⟨rfl,rfl⟩
  exact ⟨_,G,_,.tu [],rfl,.refl G,hr,.tu rfl (fun i v x hv=>by simp at hv),rfl,rfl⟩
end Go.AL
