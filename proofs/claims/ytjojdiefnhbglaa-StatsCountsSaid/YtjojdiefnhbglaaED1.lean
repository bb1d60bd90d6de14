/- Contracts of datoms' keys: written; how two stand. -/
import Derived.Test.YtjojdiefnhbglaaET1
import Derived.Test.YtjojdiefnhbglaaOps7
import Derived.Test.YtjojdiefnhbglaaOps11
set_option linter.all false
namespace Go.Proofs
open Go.AL Go.Sort
attribute [local irreducible] Go.AL.W Go.AL.WL Go.AL.WD Go.AL.POp Go.AL.PPOp Go.AL.POpS Go.AL.PC Go.AL.AC Go.AL.YW Go.AL.Ret Go.AL.Le Go.AL.thn Go.AL.inBlk Go.AL.scp
instance : Xt Try.prog 173 Extern.BytealgCompare.compare:=⟨run_callFunc_extern Try.func173 (by kernel_rfl) (by kernel_rfl) (by kernel_rfl) (by kernel_rfl)⟩
instance (p : Prop) : BP (dP p) p (¬ p):=⟨fun h=>by rwa [dP_t] at h,fun h=>by rwa [dP_f] at h⟩
instance (s : List UInt8) : BP (wordB s) (WordP s) (¬ WordP s):=⟨fun h=>by unfold wordB at h;simpa using h,fun h=>by unfold wordB at h;simpa using h⟩
instance (v : Val) : BP (mayB v) (MayP v) (¬ MayP v):=⟨fun h=>by unfold mayB at h;rwa [dP_t] at h,fun h=>by unfold mayB at h;rwa [dP_f] at h⟩
structure Prt where
  value : Bool
  n : Int
  v : Val
abbrev pC (p : Prt) : List AV:=[.sc (.bool p.value),.sc (.int .i64 p.n),.sc (.int .i64 p.v.kind),.sc (.int .i64 p.v.n),str p.v.s]
abbrev eP (p : Prt) : AV:=.ag (pC p)
def prtN (n : Int) : Prt:=⟨false,n,val0⟩
def prtV (v : Val) : Prt:=⟨true,0,v⟩
set_option maxHeartbeats 1000000 in
theorem is_pc [GlobF Try.prog] (o : Int) : PC Try.prog 57 [.sc (.int .i64 o)] (.sc (.bool (dP (1 ≤ o ∧ o ≤ 4)))):=by
  refine PC.of_body Try.func57 Try.ntmps57 rfl rfl rfl ?_
  repeat' first
 | (apply p1 (hd:=rfl);case hop=>first|(apply D_move;rfl)|(apply D_assign;rfl)|(apply D_pickT;rfl;rfl)|(apply D_pickF;rfl;rfl)|(apply D_int;rfl;rfl;rfl))
 | refine W_seq ?_
 | refine W_region ?_
 | refine WL_nil ?_
 | (refine idG ?_;first|refine g0t rfl rfl rfl ?_|refine gr rfl rfl ?_|refine gs rfl rfl (fun _=>?_) (fun _=>?_))
 | refine tn ?_
 | refine W_ret ?_
 | (refine idR ?_;refine ret1 rfl rfl rfl ?_)
 | (refine Le.bool ?_)
  all_goals (refine dP_eq ?_;first|(rw [iLe_t];omega)|(simp;omega))
def hasP (o : Int) (d : Dat) : Prop:=(1 ≤ o ∧ o ≤ 3) ∨ (o = 4 ∧ d.v.kind = 5)
set_option maxHeartbeats 1000000 in
theorem dhas_pc [GlobF Try.prog] (o : Int) (d : Dat) : PC Try.prog 58 [.sc (.int .i64 o),eD d] (.sc (.bool (dP (hasP o d)))):=by
  refine PC.of_body Try.func58 Try.ntmps58 rfl rfl rfl ?_
  repeat' first
 | (apply p1 (hd:=rfl);case hop=>first|(apply D_move;rfl)|(apply D_assign;rfl)|(apply D_load1;rfl)|(apply D_fld;rfl)|(apply D_int;rfl;rfl;rfl)|(apply D_box;rfl;rfl))
 | refine W_seq ?_
 | refine W_region ?_
 | (refine idC ?_;first|refine c1 rfl ?_|refine cs rfl (fun _=>?_) (fun _=>?_))
 | refine WL_nil ?_
 | refine tn ?_
 | refine tr ?_
 | refine br ?_
 | refine bn ?_
 | refine te ?_
 | (refine idB ?_;first|refine bh rfl ?_|refine bm rfl ?_)
 | refine W_skip ?_
 | refine W_block ?_
 | refine W_exit ?_
 | refine W_ret ?_
 | (refine idR ?_;refine ret1 rfl rfl rfl ?_)
 | (refine Le.bool ?_)
  all_goals (refine dP_eq ?_;unfold hasP;simp;omega)
set_option maxHeartbeats 1000000 in
theorem number_pc [GlobF Try.prog] (n : Int) : PC Try.prog 103 [.sc (.int .i64 n)] (eP (prtN n)):=by
  refine PC.of_body Try.func103 Try.ntmps103 rfl rfl rfl ?_
  repeat' first
 | (apply p1 (hd:=rfl);case hop=>first|(apply D_move;rfl)|exact D_build rfl)
 | refine W_seq ?_
 | refine W_region ?_
 | refine WL_nil ?_
 | refine tn ?_
 | refine W_ret ?_
 | (refine idR ?_;first|refine rL1 rfl (by first|exact trivial|exact ⟨rfl,trivial⟩) (by first|exact ResO.tmp rfl|exact ResO.cellBA rfl rfl rfl|exact ResO.cellB1 rfl rfl rfl|exact ResO.cellEA rfl rfl|exact ResO.cellE1 rfl) ?_)
 | (refine idA ?_;refine m_alloc rfl ?_)
 | (refine idS ?_;refine pS (S_store rfl rfl rfl rfl rfl rfl rfl) ?_)
  all_goals exact Le.of_eq rfl
set_option maxHeartbeats 1000000 in
theorem said_pc [GlobF Try.prog] (v : Val) : PC Try.prog 138 [eV v] (eP (prtV v)):=by
  refine PC.of_body Try.func138 Try.ntmps138 rfl rfl rfl ?_
  repeat' first
 | (apply p1 (hd:=rfl);case hop=>first|(apply D_loadW;rfl;rfl)|(apply D_box;rfl;rfl)|exact D_build rfl)
 | refine W_seq ?_
 | refine W_region ?_
 | refine WL_nil ?_
 | refine tn ?_
 | refine W_ret ?_
 | (refine idR ?_;first|refine rL1 rfl (by first|exact trivial|exact ⟨rfl,trivial⟩) (by first|exact ResO.tmp rfl|exact ResO.cellBA rfl rfl rfl|exact ResO.cellB1 rfl rfl rfl|exact ResO.cellEA rfl rfl|exact ResO.cellE1 rfl) ?_)
 | (refine idA ?_;refine m_alloc rfl ?_)
 | (refine idS ?_;refine pS (S_store rfl rfl rfl rfl rfl rfl rfl) ?_)
  all_goals exact Le.of_eq rfl
set_option maxHeartbeats 1000000 in
theorem added_pc [GlobF Try.prog] (d : Dat) : PC Try.prog 77 [eD d] (.sc (.int .i64 (if d.add then 0 else 1))):=by
  refine PC.of_body Try.func77 Try.ntmps77 rfl rfl rfl ?_
  repeat' first
 | (apply p1 (hd:=rfl);case hop=>first|(apply D_assign;rfl)|(apply D_load1;rfl)|(apply D_fld;rfl)|(apply D_box;rfl;rfl))
 | refine W_seq ?_
 | refine W_region ?_
 | (refine idC ?_;refine cs rfl (fun _=>?_) (fun _=>?_))
 | refine WL_nil ?_
 | refine tn ?_
 | refine tr ?_
 | refine W_skip ?_
 | refine W_ret ?_
 | (refine idR ?_;refine ret1 rfl rfl rfl ?_)
 | (refine Le.int ?_)
  all_goals simp_all
def fst1 (o : Int) (d : Dat) : Prt:=if o = 1 then prtN d.e else if o = 2 then prtN d.a else if o = 3 then prtN d.a else prtV d.v
def fst2 (o : Int) (d : Dat) : Prt:=if o = 1 then prtN d.a else if o = 2 then prtN d.e else if o = 3 then prtV d.v else prtN d.a
def fst3 (o : Int) (d : Dat) : Prt:=if o = 1 then prtV d.v else if o = 2 then prtV d.v else if o = 3 then prtN d.e else prtN d.e
def part7 (o : Int) (d : Dat) : List Prt:=[fst1 o d,fst2 o d,fst3 o d,prtN d.t,prtN (if d.add then 0 else 1),prtN d.fr,prtN d.to]
abbrev pC3 (p q r : Prt) : List AV:=[.sc (.bool p.value),.sc (.int .i64 p.n),.sc (.int .i64 p.v.kind),.sc (.int .i64 p.v.n),str p.v.s,.sc (.bool q.value),.sc (.int .i64 q.n),.sc (.int .i64 q.v.kind),.sc (.int .i64 q.v.n),str q.v.s,.sc (.bool r.value),.sc (.int .i64 r.n),.sc (.int .i64 r.v.kind),.sc (.int .i64 r.v.n),str r.v.s]
set_option maxHeartbeats 4000000 in
theorem first_pc [GlobF Try.prog] (o : Int) (d : Dat) : PC Try.prog 102 [.sc (.int .i64 o),eD d] (.ag (pC3 (fst1 o d) (fst2 o d) (fst3 o d))):=by
  refine PC.of_body Try.func102 Try.ntmps102 rfl rfl rfl ?_
  repeat' first
 | (apply p1 (hd:=rfl);case hop=>first|(apply D_move;rfl)|(apply D_assign;rfl)|(apply D_int;rfl;rfl;rfl)|(apply D_box;rfl;rfl))
 | refine W_seq ?_
 | refine W_region ?_
 | (refine idC ?_;refine cs rfl (fun _=>?_) (fun _=>?_))
 | refine WL_nil ?_
 | refine tn ?_
 | refine tr ?_
 | refine br ?_
 | refine bn ?_
 | refine W_skip ?_
 | refine W_block ?_
 | refine W_ret ?_
 | (refine idR ?_;first|refine rL1 rfl (by first|exact trivial|exact ⟨rfl,trivial⟩) (by first|exact ResO.tmp rfl|exact ResO.cellBA rfl rfl rfl|exact ResO.cellB1 rfl rfl rfl|exact ResO.cellEA rfl rfl|exact ResO.cellE1 rfl) ?_)
 | (refine idA ?_;refine m_alloc rfl ?_)
 | (refine idW ?_;refine W_draw0 rfl ?_)
 | (apply d1 (hd:=rfl);case hop=>first|(apply D_pc (number_pc _);rfl;exact .same rfl .nil)|(apply D_pc (said_pc d.v);rfl;exact .same rfl .nil)|(apply D_load1;rfl)|(apply D_fld;rfl)|(apply D_loadA;rfl;rfl)|exact D_buildA rfl)
 | (refine idDn ?_;refine dS (S_store rfl rfl rfl rfl rfl rfl rfl) rfl ?_)
 | (refine WD_nil (by first|decide +kernel|kernel_rfl|rfl) ?_)
  all_goals
    first
      | (have h1 : fst1 o d = prtN d.e:=by simp [fst1, *]
         have h2 : fst2 o d = prtN d.a:=by simp [fst2, *]
         have h3 : fst3 o d = prtV d.v:=by simp [fst3, *]
         rw [h1,h2,h3];exact Le.of_eq rfl)
      | (have h1 : fst1 o d = prtN d.a:=by simp [fst1, *]
         have h2 : fst2 o d = prtN d.e:=by simp [fst2, *]
         have h3 : fst3 o d = prtV d.v:=by simp [fst3, *]
         rw [h1,h2,h3];exact Le.of_eq rfl)
      | (have h1 : fst1 o d = prtN d.a:=by simp [fst1, *]
         have h2 : fst2 o d = prtV d.v:=by simp [fst2, *]
         have h3 : fst3 o d = prtN d.e:=by simp [fst3, *]
         rw [h1,h2,h3];exact Le.of_eq rfl)
      | (have h1 : fst1 o d = prtV d.v:=by simp [fst1, *]
         have h2 : fst2 o d = prtN d.a:=by simp [fst2, *]
         have h3 : fst3 o d = prtN d.e:=by simp [fst3, *]
         rw [h1,h2,h3];exact Le.of_eq rfl)
set_option maxHeartbeats 4000000 in
theorem parts1_ac [GlobF Try.prog] (o : Int) (d : Dat) (l : Nat) (I : Nat → List AObj → Prop) (Stop : List AObj → Prop) {h0 : List AObj} (hI : I 0 h0)
    (hy : ∀ (i : Nat) (hi : i < 7) (h : List AObj),I i h → YW Try.prog l [.sc (.int .i64 (i : Int)),eP ((part7 o d)[i]'hi)] h (fun b h'=>(b = true ∧ I (i + 1) h') ∨ (b = false ∧ Stop h'))) :
    AC Try.prog 101 [.sc (.func (.yield l) #[] #[]),.ep [.sc (.int .i64 o)],.ep (dC d)] h0 (fun _ h'=>I 7 h' ∨ Stop h'):=by
  refine AC.of_body Try.func101 Try.ntmps101 rfl rfl rfl ?_
  repeat' first
 | (apply p1 (hd:=rfl);case hop=>first|(apply D_move;rfl)|(apply D_assign;rfl)|(apply D_pc (first_pc o d);rfl;exact .same rfl (.same rfl .nil))|(apply D_load1;rfl)|(apply D_loadW;rfl;rfl))
 | refine W_seq ?_
 | refine W_region ?_
 | refine WL_nil ?_
 | refine tn ?_
 | (refine W_block ?_)
  refine W_loopL (X:=Nat × List AObj) (fun x=>[(0,.sc (.func (.yield l) #[] #[])),(2,.ep (dC d)),(4,.sc (.int .i64 (x.1 : Int))),(11,.ag (pC3 (fst1 o d) (fst2 o d) (fst3 o d))),(12,.sc (.int .i64 (x.1 : Int)))]) (fun x=>x.2)
    (fun x=>x.1 ≤ 3 ∧ I x.1 x.2) (fun x=>3 - x.1) (0,h0) ⟨by show 0 ≤ 3;omega,hI⟩ ⟨rfl,rfl,rfl,rfl,rfl,trivial⟩ rfl ?_
  rintro ⟨i,hi0⟩ ⟨hi,hIi⟩
  simp only at hi hIi
  have hyi:=hy i (by omega) _ hIi
  have hc : i = 0 ∨ i = 1 ∨ i = 2 ∨ i = 3:=by omega
  rcases hc with rfl|rfl|rfl|rfl
  all_goals
    repeat' first
 | (apply p1 (hd:=rfl);case hop=>first|(apply D_move;rfl)|(apply D_assign;rfl)|(apply D_int;rfl;rfl;rfl)|(apply D_not;rfl)|(apply D_loadW;rfl;rfl)|(apply D_ixVA;rfl;rfl;all_goals first|omega|((repeat rw [w64 _ (by omega) (by omega)]);omega)|decide))
 | refine W_seq ?_
 | refine W_region ?_
 | (refine idC ?_;refine cs rfl (fun _=>?_) (fun _=>?_))
 | refine WL_nil ?_
 | refine tn ?_
 | refine tr ?_
 | refine br ?_
 | refine bn ?_
 | refine te ?_
 | (refine idB ?_;refine bh rfl ?_)
 | refine W_skip ?_
 | refine W_block ?_
 | refine W_exit ?_
 | refine W_ret ?_
 | (refine idA ?_;first|refine m_var rfl rfl rfl rfl rfl rfl rfl ?_|refine m_alloc rfl ?_)
 | (refine m_yield rfl rfl rfl hyi ?_;rintro b h' (⟨rfl,hnx⟩ | ⟨rfl,hst⟩))
 | (refine idW ?_;refine W_draw0 rfl ?_)
 | (apply d1 (hd:=rfl);case hop=>first|(apply D_move;rfl)|(apply D_pc (added_pc d);rfl;exact .same rfl .nil)|(apply D_load1;rfl)|(apply D_fld;rfl)|(apply D_len_sl;rfl)|(apply D_loadW;rfl;rfl)|(apply D_lit;rfl;rfl;rfl;rfl))
 | (refine WD_nil (by first|decide +kernel|kernel_rfl|rfl) ?_)
  all_goals first
    | contradiction
    | omega
    | exact ret0 (.inl rfl) rfl rfl (.inr (by assumption))
    | (refine ⟨rfl,(_,_),⟨?_,hnx⟩,?_,⟨rfl,rfl,ieq (wsucc _ (by omega)),rfl,ieq (wsucc _ (by omega)),trivial⟩,rfl⟩ <;> (simp only;omega))
    | skip
  refine W_loopL (X:=Nat × List AObj) (fun x=>[(0,.sc (.func (.yield l) #[] #[])),(4,.sc (.int .i64 ((3 + x.1 : Nat) : Int))),(31,.sl none 1 [[.sc (.int .i64 d.t)],[.sc (.int .i64 (if d.add then 0 else 1))],[.sc (.int .i64 d.fr)],[.sc (.int .i64 d.to)]]),(32,.sc (.int .i64 4)),(33,.sc (.int .i64 (x.1 : Int)))]) (fun x=>x.2)
    (fun x=>x.1 ≤ 4 ∧ I (3 + x.1) x.2) (fun x=>4 - x.1) (0,hi0) ⟨by show 0 ≤ 4;omega,hIi⟩ ⟨rfl,rfl,rfl,rfl,rfl,trivial⟩ rfl ?_
  rintro ⟨i,hi1⟩ ⟨hi,hIi2⟩
  simp only at hi hIi2
  have hyi:=fun h=>hy (3 + i) h _ hIi2
  have hc : i = 0 ∨ i = 1 ∨ i = 2 ∨ i = 3 ∨ i = 4:=by omega
  rcases hc with rfl|rfl|rfl|rfl|rfl
  all_goals
    repeat' first
 | (apply p1 (hd:=rfl);case hop=>first|(apply D_move;rfl)|(apply D_assign;rfl)|(apply D_pc (number_pc _);rfl;exact .same rfl .nil)|(apply D_load1;rfl)|(apply D_int;rfl;rfl;rfl)|(apply D_not;rfl)|(apply D_idxA0;rfl;rfl;omega;(first|omega|(simp;done)|(simp;omega))))
 | refine W_seq ?_
 | refine W_region ?_
 | (refine idC ?_;refine cs rfl (fun _=>?_) (fun _=>?_))
 | refine WL_nil ?_
 | refine tn ?_
 | refine tr ?_
 | refine br ?_
 | refine bn ?_
 | refine te ?_
 | (refine idB ?_;refine bh rfl ?_)
 | refine W_skip ?_
 | refine W_block ?_
 | refine W_exit ?_
 | refine W_ret ?_
 | (refine m_yield rfl rfl rfl (hyi (by omega)) ?_;rintro b h' (⟨rfl,hnx⟩ | ⟨rfl,hst⟩))
  all_goals first
    | contradiction
    | omega
    | exact ret0 (.inl rfl) rfl rfl (.inr (by assumption))
    | exact ret0 (.inr rfl) rfl rfl (.inl hIi2)
    | (refine ⟨rfl,(1,_),⟨?_,hnx⟩,?_,⟨rfl,ieq (wsucc _ (by omega)),rfl,rfl,ieq (wsucc _ (by omega)),trivial⟩,rfl⟩ <;> (simp only;omega))
    | (refine ⟨rfl,(2,_),⟨?_,hnx⟩,?_,⟨rfl,ieq (wsucc _ (by omega)),rfl,rfl,ieq (wsucc _ (by omega)),trivial⟩,rfl⟩ <;> (simp only;omega))
    | (refine ⟨rfl,(3,_),⟨?_,hnx⟩,?_,⟨rfl,ieq (wsucc _ (by omega)),rfl,rfl,ieq (wsucc _ (by omega)),trivial⟩,rfl⟩ <;> (simp only;omega))
    | (refine ⟨rfl,(4,_),⟨?_,hnx⟩,?_,⟨rfl,ieq (wsucc _ (by omega)),rfl,rfl,ieq (wsucc _ (by omega)),trivial⟩,rfl⟩ <;> (simp only;omega))
theorem parts1_acC [GlobF Try.prog] (o : Int) (d : Dat) (l : Nat) (C : Nat → Prop) {h0 : List AObj} {Stop : List AObj → Prop} (hC : C 0)
    (hy : ∀ (i : Nat) (hi : i < 7),C i → YW Try.prog l [.sc (.int .i64 (i : Int)),eP ((part7 o d)[i]'hi)] h0 (fun b h'=>(b = true ∧ h' = h0 ∧ C (i + 1)) ∨ (b = false ∧ Stop h'))) (hend : C 7 → Stop h0) :
    AC Try.prog 101 [.sc (.func (.yield l) #[] #[]),.ep [.sc (.int .i64 o)],.ep (dC d)] h0 (fun _ h'=>Stop h'):=by
  refine AC.mono (parts1_ac o d l (fun i h=>h = h0 ∧ C i) Stop ⟨rfl,hC⟩ ?_) ?_
  · rintro i hi h ⟨rfl,hc⟩
    refine (hy i hi hc).mono ?_
    rintro b h' (⟨h1,h2,h3⟩|h1)
    · exact .inl ⟨h1,h2,h3⟩
    · exact .inr h1
  · rintro _ h' (⟨rfl,h2⟩|h1)
    · exact hend h2
    · exact h1
theorem parts1_acX [GlobF Try.prog] (o : Int) (d : Dat) (l : Nat) (Hs : Nat → List AObj) (C : Nat → Prop) {h0 : List AObj} {Stop : List AObj → Prop} (hH : Hs 0 = h0) (hC : C 0)
    (hy : ∀ (i : Nat) (hi : i < 7),C i → YW Try.prog l [.sc (.int .i64 (i : Int)),eP ((part7 o d)[i]'hi)] (Hs i) (fun b h'=>(b = true ∧ h' = Hs (i + 1) ∧ C (i + 1)) ∨ (b = false ∧ Stop h'))) (hend : C 7 → Stop (Hs 7)) :
    AC Try.prog 101 [.sc (.func (.yield l) #[] #[]),.ep [.sc (.int .i64 o)],.ep (dC d)] h0 (fun _ h'=>Stop h'):=by
  refine AC.mono (parts1_ac o d l (fun i h=>h = Hs i ∧ C i) Stop ⟨hH.symm,hC⟩ ?_) ?_
  · rintro i hi h ⟨rfl,hc⟩
    refine (hy i hi hc).mono ?_
    rintro b h' (⟨h1,h2,h3⟩|h1)
    · exact .inl ⟨h1,h2,h3⟩
    · exact .inr h1
  · rintro _ h' (⟨rfl,h2⟩|h1)
    · exact hend h2
    · exact h1
set_option maxHeartbeats 1000000 in
theorem parts_pc [GlobF Try.prog] (o : Int) (d : Dat) : PC Try.prog 75 [.sc (.int .i64 o),eD d] (.fn (.func 101) [] [.ep [.sc (.int .i64 o)],.ep (dC d)]):=by
  refine PC.of_body Try.func75 Try.ntmps75 rfl rfl rfl ?_
  repeat' first
 | (apply p1 (hd:=rfl);case hop=>first|(apply D_assign;rfl)|(apply D_box;rfl;rfl)|exact D_mkfn rfl)
 | refine W_seq ?_
 | refine W_region ?_
 | refine WL_nil ?_
 | refine tn ?_
 | refine W_ret ?_
 | (refine idR ?_;refine ret1 rfl rfl rfl ?_)
  all_goals exact Le.of_eq rfl
def nb (V k : Nat) : UInt8:=UInt8.ofNat (V / 256 ^ k)
def lowb (V : Nat) : Nat → List UInt8
  | 0=>[]
  | i + 1=>nb V i :: lowb V i
def num64 (n : Int) : Nat:=((n + 9223372036854775808) % 18446744073709551616).toNat
def num8 (n : Int) : List UInt8:=lowb (num64 n) 8
theorem lowb_len (V : Nat) : ∀ i,(lowb V i).length = i
  | 0=>rfl
  | i + 1=>by simp [lowb,lowb_len V i]
theorem num8_len (n : Int) : (num8 n).length = 8:=lowb_len _ _
theorem num64_lt (n : Int) : num64 n < 18446744073709551616:=by unfold num64;omega
theorem num64_i (n : Int) : (num64 n : Int) = (n + 9223372036854775808) % 18446744073709551616:=by unfold num64;omega
abbrev nx (V : Int) (i : Nat) : AV:=.sc (.int .u8 (IntKind.u8.wrap (V.fdiv (2 ^ (min (IntKind.i64.wrap (56 - IntKind.i64.wrap (8 * (i : Int)))).toNat IntKind.u64.bits)))))
theorem nx_eq (V i : Nat) (hi : i < 8) : nx V i = .sc (.int .u8 ((nb V (7 - i)).toNat : Int)):=by
  have h1 : IntKind.i64.wrap (8 * (i : Int)) = 8 * (i : Int):=w64 _ (by omega) (by omega)
  have h2 : IntKind.i64.wrap (56 - 8 * (i : Int)) = ((8 * (7 - i) : Nat) : Int):=by rw [w64 _ (by omega) (by omega)];omega
  have h3 : min (8 * (7 - i)) IntKind.u64.bits = 8 * (7 - i):=Nat.min_eq_left (by show _ ≤ 64;omega)
  have h4 : ((V : Int).fdiv (2 ^ (8 * (7 - i)))) = ((V / 256 ^ (7 - i) : Nat) : Int):=by
    have e : ((2 : Int) ^ (8 * (7 - i))) = ((256 ^ (7 - i) : Nat) : Int):=by rw [show (256 : Nat) = 2 ^ 8 from rfl,← Nat.pow_mul];simp
    rw [Int.fdiv_eq_ediv_of_nonneg _ (by rw [e];exact Int.natCast_nonneg _),e];rfl
  simp only [nx,h1,h2,Int.toNat_natCast,h3,h4,u8w,nb]
abbrev nxs (V : Int) : List AV:=[nx V 0,nx V 1,nx V 2,nx V 3,nx V 4,nx V 5,nx V 6,nx V 7]
theorem nxs_eq (V : Nat) : nxs V = (lowb V 8).map fun b=>.sc (.int .u8 (b.toNat : Int)):=by
  simp only [nxs,nx_eq V _ (by decide : (0 : Nat) < 8),nx_eq V 1 (by decide),nx_eq V 2 (by decide),nx_eq V 3 (by decide),nx_eq V 4 (by decide),nx_eq V 5 (by decide),nx_eq V 6 (by decide),nx_eq V 7 (by decide)]
  rfl
abbrev z8 : List AV:=[.sc (.int .u8 0),.sc (.int .u8 0),.sc (.int .u8 0),.sc (.int .u8 0),.sc (.int .u8 0),.sc (.int .u8 0),.sc (.int .u8 0),.sc (.int .u8 0)]
theorem xor63a (y : Nat) (h : y < 9223372036854775808) : y ^^^ 9223372036854775808 = y + 9223372036854775808:=by
  have h1:=Nat.two_pow_add_eq_or_of_lt (i:=63) (b:=y) h 1
  have h2 : 2 ^ 63 * 1 ||| y = y ^^^ 9223372036854775808:=by
    apply Nat.eq_of_testBit_eq
    intro j
    rw [show (2 ^ 63 * 1 : Nat) = 2 ^ 63 from rfl,show (9223372036854775808 : Nat) = 2 ^ 63 from rfl,Nat.testBit_or,Nat.testBit_xor,Nat.testBit_two_pow]
    by_cases e : 63 = j
    · subst e;rw [Nat.testBit_lt_two_pow h];rfl
    · simp [e]
  omega
theorem xor63 (m : Nat) (h : m < 18446744073709551616) : m ^^^ 9223372036854775808 = (m + 9223372036854775808) % 18446744073709551616:=by
  rcases Nat.lt_or_ge m 9223372036854775808 with h1|h1
  · rw [xor63a m h1];omega
  · obtain ⟨y,rfl⟩ : ∃ y,m = y + 9223372036854775808:=⟨m - 9223372036854775808,by omega⟩
    rw [← xor63a y (by omega),Nat.xor_assoc,Nat.xor_self,Nat.xor_zero]
    rw [xor63a y (by omega)];omega
set_option maxHeartbeats 4000000 in
theorem num0_pc [GlobF Try.prog] (n : Int) : PC Try.prog 131 [.sc (.int .i64 n)] (.ag ((num8 n).map fun b=>.sc (.int .u8 (b.toNat : Int)))):=by
  have hV : IntKind.u64.wrap ((BitVec.ofInt IntKind.u64.bits (IntKind.u64.wrap n) ^^^ BitVec.ofInt IntKind.u64.bits 9223372036854775808).toNat : Int) = (num64 n : Int):=by
    have e1 : IntKind.u64.wrap n = ((n % 18446744073709551616).toNat : Int):=by
      simp only [IntKind.wrap,IntKind.bits,IntKind.signed,Bool.false_and,Bool.false_eq_true,if_false]
      omega
    have e2 : num64 n = ((n % 18446744073709551616).toNat + 9223372036854775808) % 18446744073709551616:=by unfold num64;omega
    have hm : (n % 18446744073709551616).toNat < 18446744073709551616:=by omega
    rw [e1,e2]
    generalize (n % 18446744073709551616).toNat = m at hm
    rw [BitVec.toNat_xor,show (BitVec.ofInt IntKind.u64.bits (m : Int)).toNat = m by simp [IntKind.bits];omega,show (BitVec.ofInt IntKind.u64.bits 9223372036854775808).toNat = 9223372036854775808 by decide,xor63 m hm]
    exact u64w _ (by omega)
  rw [show (num8 n).map (fun b=>AV.sc (.int .u8 (b.toNat : Int))) = nxs (num64 n) from (nxs_eq _).symm]
  refine PC.of_body Try.func131 Try.ntmps131 rfl rfl rfl ?_
  repeat' first
 | (apply p1 (hd:=rfl);case hop=>first|(apply D_move;rfl)|(apply D_assign;rfl)|(apply D_int;rfl;rfl;rfl)|(apply D_conv_int;rfl))
 | refine W_seq ?_
 | refine W_region ?_
 | refine WL_nil ?_
 | refine tn ?_
 | refine W_block ?_
 | (refine idA ?_;refine m_alloc rfl ?_)
  refine W_loopL (X:=Nat) (fun i=>[(2,.bp 0 0),(3,.bp 1 0),(4,.sc (.int .u64 (num64 n : Int))),(9,.sc (.int .i64 (i : Int)))]) (fun i=>[.cells z8,.cells ((nxs (num64 n)).take i ++ z8.drop i)])
    (fun i=>i ≤ 8) (fun i=>8 - i) 0 (by omega) ⟨rfl,rfl,ieq hV,rfl,trivial⟩ rfl ?_
  intro i hi
  have hc : i = 0 ∨ i = 1 ∨ i = 2 ∨ i = 3 ∨ i = 4 ∨ i = 5 ∨ i = 6 ∨ i = 7 ∨ i = 8:=by omega
  rcases hc with rfl|rfl|rfl|rfl|rfl|rfl|rfl|rfl|rfl
  all_goals
    repeat' first
 | (apply p1 (hd:=rfl);case hop=>first|(apply D_move;rfl)|(apply D_assign;rfl)|(apply D_int;rfl;rfl;rfl)|(apply D_conv_int;rfl)|(apply D_ixPB;rfl;rfl;all_goals first|omega|((repeat rw [w64 _ (by omega) (by omega)]);omega)|decide)|(apply D_shr;rfl;rfl;first|omega|((repeat rw [w64 _ (by omega) (by omega)]);omega)|decide))
 | refine W_seq ?_
 | refine W_region ?_
 | (refine idC ?_;refine cs rfl (fun _=>?_) (fun _=>?_))
 | refine WL_nil ?_
 | refine tn ?_
 | refine bn ?_
 | refine te ?_
 | (refine idB ?_;refine bh rfl ?_)
 | refine W_skip ?_
 | refine W_block ?_
 | refine W_exit ?_
 | refine W_ret ?_
 | (refine idR ?_;first|refine rL1 rfl (by first|exact trivial|exact ⟨rfl,trivial⟩) (by first|exact ResO.tmp rfl|exact ResO.cellBA rfl rfl rfl|exact ResO.cellB1 rfl rfl rfl|exact ResO.cellEA rfl rfl|exact ResO.cellE1 rfl) ?_)
 | (refine idLd ?_;refine p1L (D_loadBA rfl rfl rfl) rfl ?_)
 | (refine idS ?_;refine pS (S_store rfl rfl rfl rfl rfl rfl rfl) ?_)
  all_goals first
    | (refine ⟨rfl,_,?_,?_,⟨rfl,rfl,rfl,ieq (wsucc _ (by omega)),trivial⟩,rfl⟩ <;> omega)
    | omega
    | exact Le.of_eq rfl
set_option maxHeartbeats 1000000 in
theorem num_pc [GlobF Try.prog] (n : Int) : PC Try.prog 94 [.sc (.int .i64 n)] (.sl none 1 ((num8 n).map byteC)):=by
  refine PC.of_body Try.func94 Try.ntmps94 rfl rfl rfl ?_
  repeat' first
 | (apply p1 (hd:=rfl);case hop=>first|(apply D_move;rfl)|(apply D_assign;rfl)|(apply D_pc (num0_pc n);rfl;exact .same rfl .nil)|(apply D_slPE;rfl;rfl;rfl))
 | refine W_seq ?_
 | refine W_region ?_
 | refine WL_nil ?_
 | refine tn ?_
 | refine W_ret ?_
 | (refine idR ?_;refine ret1 rfl rfl rfl ?_)
 | (refine idA ?_;refine m_var rfl rfl rfl rfl rfl rfl rfl ?_)
  all_goals exact Le.of_eq rfl
def esc (s : List UInt8) : List UInt8:=s.flatMap fun c=>if c = 0 then [0,255] else [c]
def textB (s : List UInt8) : List UInt8:=esc s ++ [0,1]
theorem esc_len (s : List UInt8) : (esc s).length ≤ 2 * s.length:=by
  induction s with
  | nil=>simp [esc]
  | cons c s ih =>
    simp only [esc,List.flatMap_cons,List.length_append,List.length_cons] at ih ⊢
    split <;> simp only [List.length_cons,List.length_nil] <;> omega
theorem esc_succ (s : List UInt8) (i : Nat) (h : i < s.length) : esc (s.take (i + 1)) = esc (s.take i) ++ (if s[i] = 0 then [0,255] else [s[i]]):=by
  simp only [esc,List.take_succ_eq_append_getElem h,List.flatMap_append,List.flatMap_cons,List.flatMap_nil,List.append_nil]
theorem esc_take_len (s : List UInt8) (i : Nat) : (esc (s.take i)).length ≤ 2 * s.length:=Nat.le_trans (esc_len _) (by simp only [List.length_take];omega)
theorem u8z {c : UInt8} (h : (c.toNat : Int) = 0) : c = 0:=by
  apply UInt8.toNat.inj;show _ = 0;omega
theorem u8nz {c : UInt8} (h : (c.toNat : Int) ≠ 0) : c ≠ 0:=fun e=>h (by rw [e];rfl)
set_option maxHeartbeats 4000000 in
theorem text_ac [GlobF Try.prog] {h : List AObj} {tk : Nat} {els : List (List AV)} (s : List UInt8) {n : Nat} (ht : h[tk]? = some (.tail n 1 5)) (hn : n = els.length) (hb : els.length < 1099511627776) (hs : s.length < 1099511627776) :
    AC Try.prog 132 [.sl (some tk) 1 els,str s] h (fun v h'=>v = .sl (some tk) 1 (els ++ (textB s).map byteC) ∧ h' = h.set tk (.tail (els.length + (textB s).length) 1 5)):=by
  subst hn
  refine AC.of_body Try.func132 Try.ntmps132 rfl rfl rfl ?_
  repeat' first
 | (apply p1 (hd:=rfl);case hop=>first|(apply D_move;rfl)|(apply D_assign;rfl)|(apply D_lenM;rfl)|(apply D_s2b;rfl))
 | refine W_seq ?_
 | refine W_region ?_
 | refine WL_nil ?_
 | refine tn ?_
 | (refine W_block ?_)
  refine W_loopL (X:=Nat) (fun i=>[(0,.sl (some tk) 1 (els ++ (esc (s.take i)).map byteC)),(8,bytesAV s),(9,.sc (.int .i64 (s.length : Int))),(10,.sc (.int .i64 (i : Int)))]) (fun i=>h.set tk (.tail (els.length + (esc (s.take i)).length) 1 5))
    (fun i=>i ≤ s.length) (fun i=>s.length - i) 0 (by omega) ⟨sleq (by simp [esc]),rfl,rfl,rfl,trivial⟩ (by rw [show (esc (s.take 0)).length = 0 by simp [esc]];exact set_self ht) ?_
  intro i hi
  have hl:=esc_take_len s i
  repeat' first
 | (apply p1 (hd:=rfl);case hop=>first|(apply D_move;rfl)|(apply D_assign;rfl)|(apply D_load1;rfl)|(apply D_int;rfl;rfl;rfl)|(apply D_idxAn;rfl;rfl;(first|omega|(simp;done)))|(apply D_lit;rfl;rfl;rfl;rfl))
 | refine W_seq ?_
 | refine W_region ?_
 | (refine idC ?_;refine cs rfl (fun _=>?_) (fun _=>?_))
 | refine WL_nil ?_
 | refine tn ?_
 | refine bn ?_
 | refine te ?_
 | (refine idB ?_;refine bh rfl ?_)
 | refine W_skip ?_
 | refine W_block ?_
 | refine W_exit ?_
 | refine W_ret ?_
 | (refine idAp ?_;refine m_app rfl rfl (by first|rfl|assumption|exact get_set (by assumption)|exact get_set (get_set (by assumption))|exact get_set (get_set (get_set (by assumption)))|((repeat first|assumption|exact get_last|(refine get_last2 ?_;focus (simp;done))|apply get_set|apply get_app|(apply get_ne;focus omega));done)) ?_ rfl rfl ?_ ?_ rfl ?_;(first|rfl|focus (simp only [List.length_map,List.length_append,List.length_cons,List.length_nil];omega)|focus (simp;done)|focus (simp;omega));(first|focus (simp only [List.length_map,List.length_append,List.length_cons,List.length_nil];omega)|focus (simp;done)|focus (simp;omega));(first|focus (simp only [List.length_map,List.length_append,List.length_cons,List.length_nil];omega)|focus (simp;done)|focus (simp;omega)))
  · rename_i h1 h2
    have h1' : i < s.length:=by omega
    have e : esc (s.take (i + 1)) = esc (s.take i) ++ [0,255]:=by rw [esc_succ s i h1',if_pos (u8z h2)]
    refine ⟨rfl,i + 1,by omega,by omega,⟨sleq ?_,rfl,rfl,ieq (wsucc i (by omega)),trivial⟩,?_⟩
    · rw [e];simp [u8z h2]
    · refine Eq.symm ((setSet2 rfl).trans (setSet2 ?_))
      rw [e];simp;omega
  · rename_i h1 h2
    have h1' : i < s.length:=by omega
    have e : esc (s.take (i + 1)) = esc (s.take i) ++ [s[i]]:=by rw [esc_succ s i h1',if_neg (u8nz h2)]
    refine ⟨rfl,i + 1,by omega,by omega,⟨sleq ?_,rfl,rfl,ieq (wsucc i (by omega)),trivial⟩,?_⟩
    · rw [e];simp
    · refine Eq.symm (setSet2 ?_)
      rw [e];simp;omega
  · have : i = s.length:=by omega
    subst this
    rw [List.take_length] at *
    refine retK1 (.inl rfl) rfl rfl (ResO.tmp rfl) ⟨?_,?_⟩
    · simp [textB]
    · exact setSet2 (by simp [textB];omega)
def u8i (n : Int) : UInt8:=UInt8.ofNat (n % 256).toNat
theorem u8iw (n : Int) : IntKind.u8.wrap n = ((u8i n).toNat : Int):=by
  have : ((n % 256).toNat : Int) = n % 256:=by omega
  unfold u8i
  rw [← u8w,this]
  simp only [IntKind.wrap,IntKind.bits,IntKind.signed,Bool.false_and,Bool.false_eq_true,if_false]
  omega
def valB (v : Val) : List UInt8:=[u8i v.kind] ++ (if v.kind = 2 then [u8i v.n] else if v.kind = 3 ∨ v.kind = 4 ∨ v.kind = 7 then textB v.s else num8 v.n)
theorem textB_len (s : List UInt8) : (textB s).length ≤ 2 * s.length + 2:=by have:=esc_len s;simp only [textB,List.length_append,List.length_cons,List.length_nil];omega
theorem valB_len (v : Val) : (valB v).length ≤ 2 * v.s.length + 9:=by
  have h1:=textB_len v.s
  have h2:=num8_len v.n
  simp only [valB,List.length_append,List.length_cons,List.length_nil]
  split
  · simp only [List.length_cons,List.length_nil];omega
  · split <;> omega
set_option maxHeartbeats 4000000 in
theorem written_ac [GlobF Try.prog] {h : List AObj} {tk : Nat} {els : List (List AV)} (v : Val) {n : Nat} (ht : h[tk]? = some (.tail n 1 5)) (hn : n = els.length) (hb : els.length < 549755813888) (hs : v.s.length < 549755813888) :
    AC Try.prog 95 [.sl (some tk) 1 els,eV v] h (fun u h'=>u = .sl (some tk) 1 (els ++ (valB v).map byteC) ∧ h' = h.set tk (.tail (els.length + (valB v).length) 1 5)):=by
  subst hn
  have hn:=num8_len v.n
  have h8:=u8iw v.kind
  have h9:=u8iw v.n
  refine AC.of_body Try.func95 Try.ntmps95 rfl rfl rfl ?_
  repeat' first
 | (apply p1 (hd:=rfl);case hop=>first|(apply D_move;rfl)|(apply D_assign;rfl)|(apply D_pc (num_pc v.n);rfl;exact .same rfl .nil)|(apply D_load1;rfl)|(apply D_fld;rfl)|(apply D_int;rfl;rfl;rfl)|(apply D_box;rfl;rfl)|(apply D_conv_int;rfl)|(apply D_lit;rfl;rfl;rfl;rfl))
 | refine W_seq ?_
 | refine W_region ?_
 | (refine idC ?_;first|refine c1 rfl ?_|refine cs rfl (fun _=>?_) (fun _=>?_))
 | refine WL_nil ?_
 | refine tn ?_
 | refine tr ?_
 | refine br ?_
 | refine bn ?_
 | refine W_skip ?_
 | refine W_block ?_
 | refine W_ret ?_
 | (refine idAp ?_;refine m_app rfl rfl (by first|rfl|assumption|exact get_set (by assumption)|exact get_set (get_set (by assumption))|exact get_set (get_set (get_set (by assumption)))|((repeat first|assumption|exact get_last|(refine get_last2 ?_;focus (simp;done))|apply get_set|apply get_app|(apply get_ne;focus omega));done)) ?_ rfl rfl ?_ ?_ rfl ?_;(first|rfl|focus (simp only [List.length_map,List.length_append,List.length_cons,List.length_nil];omega)|focus (simp;done)|focus (simp;omega));(first|focus (simp only [List.length_map,List.length_append,List.length_cons,List.length_nil];omega)|focus (simp;done)|focus (simp;omega));(first|focus (simp only [List.length_map,List.length_append,List.length_cons,List.length_nil];omega)|focus (simp;done)|focus (simp;omega)))
 | (refine m_call (text_ac v.s (by first|exact get_set (by assumption)) (by simp) (by simp;omega) (by omega)) rfl rfl rfl ?_;rintro _ _ ⟨rfl,rfl⟩)
  all_goals
    refine retK1 (.inl rfl) rfl rfl (ResO.tmp rfl) ⟨?_,?_⟩
  all_goals first
    | (simp only [h8,h9];simp [valB, *];done)
    | (refine (setSet2 rfl).trans (setSet2 ?_);simp [valB, *];done)
    | (refine setSet2 ?_;simp [valB, *];done)
    | (refine (setSet2 rfl).trans (setSet2 ?_);simp [valB, *];omega)
    | (refine setSet2 ?_;simp [valB, *];omega)
noncomputable def partB (p : Prt) : List UInt8:=if p.value then valB p.v else num8 p.n
def PartP (p : Prt) : Prop:=p.value = true → mayB p.v = true
open Classical in
noncomputable def keyE (l : List Prt) : Int:=if ∀ p,p ∈ l → PartP p then 0 else 10
open Classical in
noncomputable def keyB (l : List Prt) : List UInt8:=if ∀ p,p ∈ l → PartP p then l.flatMap partB else []
theorem may_len {v : Val} (h : mayB v = true) : v.s.length ≤ 1000:=by
  simp only [mayB,dP_t,MayP] at h
  rcases h with h|h|h|h|h
  all_goals first
    | (have:=h.2;simp_all;done)
    | (have:=h.2.1;simp_all;done)
    | (have:=h.2.2;omega)
    | (have:=h.2.2.2.1;omega)
theorem part_len {p : Prt} (h : PartP p) : (partB p).length ≤ 2009:=by
  unfold partB
  split
  · rename_i e
    have:=may_len (h e)
    have:=valB_len p.v
    omega
  · rw [num8_len];omega
theorem flat_len2 {l : List Prt} (h : ∀ p,p ∈ l → PartP p) : (l.flatMap partB).length ≤ 2009 * l.length:=by
  induction l with
  | nil=>simp
  | cons p l ih =>
    have h1:=part_len (h p (.head _))
    have h2:=ih fun q hq=>h q (.tail _ hq)
    simp only [List.flatMap_cons,List.length_append,List.length_cons];omega
theorem flat_succ (l : List Prt) (i : Nat) (h : i < l.length) : (l.take (i + 1)).flatMap partB = (l.take i).flatMap partB ++ partB l[i]:=by
  simp only [List.take_succ_eq_append_getElem h,List.flatMap_append,List.flatMap_cons,List.flatMap_nil,List.append_nil]
theorem take_all {l : List Prt} {i : Nat} (h : i < l.length) (h1 : ∀ p,p ∈ l.take i → PartP p) (h2 : PartP l[i]) : ∀ p,p ∈ l.take (i + 1) → PartP p:=by
  intro p hp
  rw [List.take_succ_eq_append_getElem h,List.mem_append] at hp
  rcases hp with hp|hp
  · exact h1 p hp
  · simp at hp;subst hp;exact h2
set_option maxHeartbeats 4000000 in
theorem key_pc [GlobF Try.prog] (l : List Prt) (hl : l.length < 1048576) (hs : ∀ p,p ∈ l → p.v.s.length < 9223372036854775808) : PC Try.prog 59 [.sl none 5 (l.map pC)] (.tu [.sl none 1 ((keyB l).map byteC),.sc (.int .i64 (keyE l))]):=by
  refine PC.of_body Try.func59 Try.ntmps59 rfl rfl rfl ?_
  repeat' first
 | (apply p1 (hd:=rfl);case hop=>first|(apply D_move;rfl)|(apply D_assign;rfl)|(apply D_lenM;rfl))
 | refine W_seq ?_
 | refine W_region ?_
 | refine WL_nil ?_
 | refine tn ?_
 | (refine W_block ?_)
  refine W_adopt 4 1 5 rfl ?_
  refine W_loopL (X:=Nat) (fun i=>[(4,.sl (some 0) 1 (((l.take i).flatMap partB).map byteC)),(8,.sl none 5 (l.map pC)),(9,.sc (.int .i64 (l.length : Int))),(10,.sc (.int .i64 (i : Int)))]) (fun i=>[.tail ((l.take i).flatMap partB).length 1 5])
    (fun i=>i ≤ l.length ∧ ∀ p,p ∈ l.take i → PartP p) (fun i=>l.length - i) 0 ⟨by omega,fun p hp=>by simp at hp⟩ ⟨rfl,rfl,rfl,rfl,trivial⟩ rfl ?_
  rintro i ⟨hi,hz⟩
  have hf:=flat_len2 hz
  have ht : (l.take i).length ≤ l.length:=by simp only [List.length_take];omega
  repeat' first
 | (apply p1 (hd:=rfl);case hop=>first|(apply D_move;rfl)|(apply D_assign;rfl)|(apply D_pc (num_pc _);rfl;exact .same rfl .nil)|(apply D_pc (check_pc _ (hs _ (List.getElem_mem _)));rfl;exact .same rfl .nil)|(apply D_load1;rfl)|(apply D_fld;rfl)|(apply D_int;rfl;rfl;rfl)|(apply D_not;rfl)|(apply D_loadW;rfl;rfl)|(apply D_idxAn;rfl;rfl;(first|omega|(simp;done))))
 | refine W_seq ?_
 | refine W_region ?_
 | (refine idC ?_;refine cs rfl (fun _=>?_) (fun _=>?_))
 | refine WL_nil ?_
 | refine tn ?_
 | refine tr ?_
 | refine br ?_
 | refine bn ?_
 | refine te ?_
 | (refine idB ?_;refine bh rfl ?_)
 | refine W_skip ?_
 | refine W_block ?_
 | refine W_exit ?_
 | refine W_ret ?_
 | (refine idR ?_;refine ret2 rfl rfl rfl rfl ?_ ?_)
 | (refine idA ?_;refine m_var rfl rfl rfl rfl rfl rfl rfl ?_)
 | refine Le.int ?_
 | (refine idAp ?_;refine m_app rfl rfl (by first|rfl|assumption|exact get_set (by assumption)|exact get_set (get_set (by assumption))|exact get_set (get_set (get_set (by assumption)))|((repeat first|assumption|exact get_last|(refine get_last2 ?_;focus (simp;done))|apply get_set|apply get_app|(apply get_ne;focus omega));done)) ?_ rfl rfl ?_ ?_ rfl ?_;(first|rfl|focus (simp only [List.length_map,List.length_append,List.length_cons,List.length_nil,num8_len];omega)|focus (simp;done)|focus (simp;omega));(first|focus (simp only [List.length_map,List.length_append,List.length_cons,List.length_nil,num8_len];omega)|focus (simp;done)|focus (simp;omega));(first|focus (simp only [List.length_map,List.length_append,List.length_cons,List.length_nil,num8_len];omega)|focus (simp;done)|focus (simp;omega)))
 | (refine m_call (written_ac _ rfl (by simp) ?_ ?_) rfl rfl rfl ?_;rotate_left 2;rintro _ _ ⟨rfl,rfl⟩)
  · rename_i h1 h2
    have h1' : i < l.length:=by omega
    have e : partB l[i] = num8 l[i].n:=by simp [partB,h2]
    refine ⟨rfl,i + 1,⟨by omega,take_all h1' hz (fun h=>by rw [h2] at h;cases h)⟩,by omega,⟨sleq ?_,rfl,rfl,ieq (wsucc i (by omega)),trivial⟩,?_⟩
    · rw [flat_succ l i h1',e,List.map_append]
    · rw [flat_succ l i h1',e,List.length_append];simp
  · rename_i h1 h2 h3
    have : ¬ ∀ p,p ∈ l → PartP p:=fun h=>by
      have:=h _ (List.getElem_mem (show i < l.length by omega)) h2
      simp [this] at h3
    rw [show keyB l = [] by simp only [keyB,if_neg this]]
    exact Le.nil rfl
  · rename_i h1 h2 h3
    have : ¬ ∀ p,p ∈ l → PartP p:=fun h=>by
      have:=h _ (List.getElem_mem (show i < l.length by omega)) h2
      simp [this] at h3
    rw [show keyE l = 10 by simp only [keyE,if_neg this]]
    split
    · rename_i h4;rw [if_pos h4] at h3;exact absurd rfl h3
    · rfl
  · rename_i h1 h2 h3
    have h1' : i < l.length:=by omega
    have hm : mayB l[i].v = true:=by
      cases hm : mayB l[i].v
      · simp [hm] at h3
      · rfl
    have e : partB l[i] = valB l[i].v:=by simp [partB,h2]
    refine ⟨rfl,i + 1,⟨by omega,take_all h1' hz (fun _=>hm)⟩,by omega,⟨sleq ?_,rfl,rfl,ieq (wsucc i (by omega)),trivial⟩,?_⟩
    · rw [flat_succ l i h1',e,List.map_append]
    · rw [flat_succ l i h1',e,List.length_append];simp
  · simp only [List.length_map];omega
  · rename_i h1 h2 h3
    have hm : mayB l[i].v = true:=by
      cases hm : mayB l[i].v
      · simp [hm] at h3
      · rfl
    have:=may_len hm
    omega
  · have : i = l.length:=by omega
    subst this
    rw [List.take_length] at *
    rw [show keyB l = l.flatMap partB by simp only [keyB,if_pos hz]]
    exact Le.of_tok rfl
  · have : i = l.length:=by omega
    subst this
    rw [List.take_length] at *
    simp only [keyE,if_pos hz]
def standI (p q : Prt) : Int:=if p.value then cmpV p.v q.v else cmpI p.n q.n
set_option maxHeartbeats 1000000 in
theorem stand_pc [GlobF Try.prog] (p q : Prt) : PC Try.prog 151 [eP p,eP q] (.sc (.int .i64 (standI p q))):=by
  refine PC.of_body Try.func151 Try.ntmps151 rfl rfl rfl ?_
  repeat' first
 | (apply p1 (hd:=rfl);case hop=>first|(apply D_assign;rfl)|(apply D_pc (compare_pc p.v q.v);rfl;exact .same rfl (.same rfl .nil))|(apply D_pc (cmpInt64_pc p.n q.n);rfl;exact .same rfl (.same rfl .nil))|(apply D_load1;rfl)|(apply D_fld;rfl)|(apply D_loadW;rfl;rfl)|(apply D_box;rfl;rfl))
 | refine W_seq ?_
 | refine W_region ?_
 | (refine idC ?_;refine cs rfl (fun _=>?_) (fun _=>?_))
 | refine WL_nil ?_
 | refine tn ?_
 | refine tr ?_
 | refine W_skip ?_
 | refine W_ret ?_
 | (refine idR ?_;refine ret1 rfl rfl rfl ?_)
 | (refine Le.int ?_)
  all_goals simp [standI, *]
theorem part7_len (o : Int) (d : Dat) : (part7 o d).length = 7:=rfl
def cmpPs : List Prt → List Prt → Int
  | p :: a,q :: b=>if standI p q = 0 then cmpPs a b else standI p q
  | _,_=>0
theorem cmpPs_drop : ∀ (i : Nat) (a b : List Prt),(∀ (j : Nat) (h : j < a.length) (h' : j < b.length),j < i → standI a[j] b[j] = 0) → cmpPs a b = cmpPs (a.drop i) (b.drop i)
  | 0,_,_,_=>rfl
  | i + 1,[],b,_=>by simp [cmpPs]
  | i + 1,p :: a,[],_=>by cases a <;> simp [cmpPs]
  | i + 1,p :: a,q :: b,h=>by
    have h0:=h 0 (by simp) (by simp) (by omega)
    simp only [List.getElem_cons_zero] at h0
    simp only [cmpPs,h0,if_true,List.drop_succ_cons]
    exact cmpPs_drop i a b fun j h1 h2 hj=>by
      have:=h (j + 1) (by simpa using h1) (by simpa using h2) (by omega)
      simpa using this
theorem cmpPs_at {a b : List Prt} (i : Nat) (h1 : i < a.length) (h2 : i < b.length) (h : ∀ (j : Nat) (h : j < a.length) (h' : j < b.length),j < i → standI a[j] b[j] = 0) (h3 : standI a[i] b[i] ≠ 0) : cmpPs a b = standI a[i] b[i]:=by
  rw [cmpPs_drop i a b h,List.drop_eq_getElem_cons h1,List.drop_eq_getElem_cons h2,cmpPs,if_neg h3]
theorem cmpPs_end {a b : List Prt} (i : Nat) (h1 : a.length ≤ i ∨ b.length ≤ i) (h : ∀ (j : Nat) (h : j < a.length) (h' : j < b.length),j < i → standI a[j] b[j] = 0) : cmpPs a b = 0:=by
  rw [cmpPs_drop i a b h]
  rcases h1 with h1|h1
  · rw [List.drop_eq_nil_of_le h1];rfl
  · rw [List.drop_eq_nil_of_le h1];cases a.drop i <;> rfl
theorem cmpI_z (a b : Int) : cmpI a b = 0 ↔ a = b:=by
  unfold cmpI;split
  · omega
  · split <;> omega
theorem cmpB_z : ∀ (a b : List UInt8),Lib.compareBytes a b = 0 ↔ a = b
  | [],[]=>by simp [Lib.compareBytes]
  | [],_ :: _=>by simp [Lib.compareBytes]
  | _ :: _,[]=>by simp [Lib.compareBytes]
  | x :: a,y :: b=>by
    simp only [Lib.compareBytes]
    by_cases h1 : x < y
    · rw [if_pos h1]
      exact ⟨fun h=>(by cases h),fun h=>(by injection h with h _;rw [h] at h1;exact absurd h1 (UInt8.lt_irrefl _))⟩
    · rw [if_neg h1]
      by_cases h2 : y < x
      · rw [if_pos h2]
        exact ⟨fun h=>(by cases h),fun h=>(by injection h with h _;rw [h] at h2;exact absurd h2 (UInt8.lt_irrefl _))⟩
      · rw [if_neg h2,cmpB_z a b]
        have : x = y:=UInt8.le_antisymm (UInt8.not_lt.1 h2) (UInt8.not_lt.1 h1)
        simp [this]
theorem cmpV_z (a b : Val) : cmpV a b = 0 ↔ a = b:=by
  obtain ⟨k,n,s⟩:=a
  obtain ⟨k',n',s'⟩:=b
  have h1:=cmpI_z k k'
  have h2:=cmpI_z n n'
  have h3:=cmpB_z s s'
  simp only [cmpV,orI,Val.mk.injEq]
  by_cases e1 : k = k'
  · rw [if_pos (h1.2 e1)]
    by_cases e2 : n = n'
    · rw [if_pos (h2.2 e2)]
      by_cases e3 : s = s'
      · rw [if_pos (h3.2 e3)];simp [e1,e2,e3]
      · rw [if_neg fun h=>e3 (h3.1 h)];simp [e1,e2,e3,h3]
    · rw [if_neg fun h=>e2 (h2.1 h)];simp [e1,e2,h2]
  · rw [if_neg fun h=>e1 (h1.1 h)];simp [e1,h1]
theorem part7_flag (o : Int) (d : Dat) (i : Nat) (h : i < 7) : ((part7 o d)[i]'h).value = ((part7 o dat0)[i]'h).value:=by
  have hc : i = 0 ∨ i = 1 ∨ i = 2 ∨ i = 3 ∨ i = 4 ∨ i = 5 ∨ i = 6:=by omega
  by_cases e1 : o = 1
  · subst e1;rcases hc with rfl|rfl|rfl|rfl|rfl|rfl|rfl <;> simp [part7,fst1,fst2,fst3,prtN,prtV]
  by_cases e2 : o = 2
  · subst e2;rcases hc with rfl|rfl|rfl|rfl|rfl|rfl|rfl <;> simp [part7,fst1,fst2,fst3,prtN,prtV]
  by_cases e3 : o = 3
  · subst e3;rcases hc with rfl|rfl|rfl|rfl|rfl|rfl|rfl <;> simp [part7,fst1,fst2,fst3,prtN,prtV]
  · rcases hc with rfl|rfl|rfl|rfl|rfl|rfl|rfl <;> simp [part7,fst1,fst2,fst3,prtN,prtV, *]
theorem list4 {α : Type} {a a' b b' c d : α} (h1 : a = a') (h2 : b = b') : [a,b,c,d] = [a',b',c,d]:=by rw [h1,h2]
set_option maxHeartbeats 4000000 in
theorem list_pc [GlobF Try.prog] (o : Int) (d : Dat) : PC Try.prog 60 [.sc (.int .i64 o),eD d] (.sl none 5 ((part7 o d).map pC)):=by
  refine PC.of_body Try.func60 Try.ntmps60 rfl rfl rfl ?_
  repeat' first
 | (apply p1 (hd:=rfl);case hop=>first|(apply D_move;rfl)|(apply D_assign;rfl)|(apply D_pc (parts_pc o d);rfl;exact .same rfl (.same rfl .nil))|(apply D_loadW;rfl;rfl)|(apply D_box;rfl;rfl))
 | refine W_seq ?_
 | refine W_region ?_
 | refine WL_nil ?_
 | refine tn ?_
 | refine W_block ?_
 | (refine idA ?_;refine m_alloc rfl ?_)
  refine W_adoptC 0 0 5 79 rfl rfl ?_
  refine W_range (.inl rfl) fun r=>?_
  refine parts1_acX o d r (fun i=>[.cells [.sl (some 1) 5 (((part7 o d).take i).map pC)],.tail i 5 79,_,_]) (fun _=>True) rfl trivial ?_ ?_
  · rintro i hi -
    have hl : ((part7 o d).take i).length = i:=by rw [List.length_take,part7_len];omega
    have e : ((part7 o d).take (i + 1)).map pC = ((part7 o d).take i).map pC ++ [pC ((part7 o d)[i]'hi)]:=by
      rw [List.take_succ_eq_append_getElem hi,List.map_append];rfl
    refine YW.round (r:=3) rfl rfl rfl ?_
    repeat' first
 | refine W_region ?_
 | refine WL_nil ?_
 | (refine idA ?_;refine m_var rfl rfl rfl rfl rfl rfl rfl ?_)
    refine ⟨rfl,rfl,?_⟩
    repeat' first
 | (apply p1 (hd:=rfl);case hop=>first|(apply D_loadW;rfl;rfl)|(apply D_lit;rfl;rfl;rfl;rfl))
 | refine W_region ?_
 | refine WL_nil ?_
 | refine bn ?_
 | refine W_block ?_
 | (refine idLd ?_;refine p1L (D_loadB1 rfl rfl rfl) rfl ?_)
 | (refine idS ?_;refine pS (S_store rfl rfl rfl rfl rfl rfl rfl) ?_)
 | (refine idAp ?_;refine m_app rfl rfl (by first|rfl|assumption|exact get_set (by assumption)|exact get_set (get_set (by assumption))|exact get_set (get_set (get_set (by assumption)))|((repeat first|assumption|exact get_last|(refine get_last2 ?_;focus (simp;done))|apply get_set|apply get_app|(apply get_ne;focus omega));done)) ?_ rfl rfl ?_ ?_ rfl ?_;(first|rfl|focus (simp only [List.length_map,List.length_append,List.length_cons,List.length_nil];omega)|focus (simp;done)|focus (simp;omega));(first|focus (simp only [List.length_map,List.length_append,List.length_cons,List.length_nil];omega)|focus (simp;done)|focus (simp;omega));(first|focus (simp only [List.length_map,List.length_append,List.length_cons,List.length_nil];omega)|focus (simp;done)|focus (simp;omega)))
    refine ⟨rfl,⟨_,_,rfl⟩,.inl ⟨rfl,list4 ?_ ?_,trivial⟩⟩
    · rw [e];rfl
    · rw [List.length_map,hl];rfl
  · intro _
    refine ⟨_,_,rfl,by decide,?_⟩
    repeat' first
 | (apply p1 (hd:=rfl);case hop=>first|(apply D_assign;rfl))
 | refine W_seq ?_
 | refine W_region ?_
 | refine WL_nil ?_
 | refine tn ?_
 | refine bn ?_
 | refine W_ret ?_
 | (refine idR ?_;first|refine rL1 rfl (by first|exact trivial|exact ⟨rfl,trivial⟩) (by first|exact ResO.tmp rfl|exact ResO.cellBA rfl rfl rfl|exact ResO.cellB1 rfl rfl rfl|exact ResO.cellEA rfl rfl|exact ResO.cellE1 rfl) ?_)
 | (refine idLd ?_;refine p1L (D_loadB1 rfl rfl rfl) rfl ?_)
    exact Le.tokq rfl
open Classical in
noncomputable def dkeyE (o : Int) (d : Dat) : Int:=if 1 ≤ o ∧ o ≤ 4 then (if dmayP d ∧ hasP o d then 0 else 40) else 2
open Classical in
noncomputable def dkeyB (o : Int) (d : Dat) : List UInt8:=if 1 ≤ o ∧ o ≤ 4 then (if dmayP d ∧ hasP o d then (part7 o d).flatMap partB else []) else []
theorem part7_all {o : Int} {d : Dat} {C : Prt → Prop} (hv : C (prtV d.v)) (hn : ∀ n,C (prtN n)) : ∀ p,p ∈ part7 o d → C p:=by
  intro p hp
  simp only [part7,List.mem_cons,List.not_mem_nil,or_false] at hp
  rcases hp with rfl|rfl|rfl|rfl|rfl|rfl|rfl
  · unfold fst1;split <;> (try split) <;> (try split) <;> first|exact hv|exact hn _
  · unfold fst2;split <;> (try split) <;> (try split) <;> first|exact hv|exact hn _
  · unfold fst3;split <;> (try split) <;> (try split) <;> first|exact hv|exact hn _
  all_goals exact hn _
theorem part7_P {o : Int} {d : Dat} (h : mayB d.v = true) : ∀ p,p ∈ part7 o d → PartP p:=part7_all (fun _=>h) (fun n h=>by cases h)
set_option maxHeartbeats 4000000 in
theorem dkey_pc [GlobF Try.prog] (o : Int) (d : Dat) (hl : d.v.s.length < 9223372036854775808) : PC Try.prog 30 [.sc (.int .i64 o),eD d] (.tu [.sl none 1 ((dkeyB o d).map byteC),.sc (.int .i64 (dkeyE o d))]):=by
  refine PC.of_body Try.func30 Try.ntmps30 rfl rfl rfl ?_
  repeat' first
 | (apply p1 (hd:=rfl);case hop=>first|(apply D_move;rfl)|(apply D_assign;rfl)|(apply D_pc (is_pc o);rfl;exact .same rfl .nil)|(apply D_pc (dmay_pc d hl);rfl;exact .same rfl .nil)|(apply D_pc (dhas_pc o d);rfl;exact .same rfl (.same rfl .nil))|(apply D_pc (list_pc o d);rfl;exact .same rfl (.same rfl .nil))|(apply D_pc (key_pc (part7 o d) (by rw [part7_len];decide) (part7_all hl (fun n=>(by decide : (0 : Nat) < 9223372036854775808))));rfl;exact .same rfl .nil)|(apply D_pickT;rfl;rfl)|(apply D_pickF;rfl;rfl)|(apply D_ext;rfl;rfl)|(apply D_not;rfl)|(apply D_loadW;rfl;rfl)|(apply D_box;rfl;rfl))
 | refine W_seq ?_
 | refine W_region ?_
 | (refine idC ?_;first|refine c1 rfl ?_|refine cs rfl (fun _=>?_) (fun _=>?_))
 | refine WL_nil ?_
 | (refine idG ?_;first|refine g0f rfl rfl rfl ?_|refine gr rfl rfl ?_|refine gs rfl rfl (fun _=>?_) (fun _=>?_))
 | refine tn ?_
 | refine tr ?_
 | refine W_skip ?_
 | refine W_ret ?_
 | (refine idR ?_;refine ret2 rfl rfl rfl rfl ?_ ?_)
 | (refine Le.int ?_)
  all_goals first
    | (rw [show dkeyB o d = [] by simp [dkeyB, *]];exact Le.nil rfl)
    | (rw [show dkeyB o d = keyB (part7 o d) by
         have hm : dmayP d:=by assumption
         have:=part7_P (o:=o) hm.2.2.2.2.1
         simp only [dkeyB,keyB,if_pos this];simp [*]];exact Le.of_eq rfl)
    | (simp [dkeyE, *];done)
    | (have hm : dmayP d:=by assumption
       have:=part7_P (o:=o) hm.2.2.2.2.1
       simp only [dkeyE,keyE,if_pos this];simp [*])
def i64P (n : Int) : Prop:=-9223372036854775808 ≤ n ∧ n < 9223372036854775808
theorem kind_of {v : Val} (h : mayB v = true) : 1 ≤ v.kind ∧ v.kind ≤ 7:=by
  simp only [mayB,dP_t,MayP] at h;omega
def prtI (p : Prt) : Prop:=i64P p.n ∧ i64P p.v.n
def kindsO (o : Int) : List Bool:=(part7 o dat0).map Prt.value
set_option maxHeartbeats 4000000 in
theorem dcmp_pc [GlobF Try.prog] (o : Int) (a b : Dat) : PC Try.prog 127 [.sc (.int .i64 o),eD a,eD b] (.sc (.int .i64 (if 1 ≤ o ∧ o ≤ 4 then cmpPs (part7 o a) (part7 o b) else 0))):=by
  refine PC.of_body Try.func127 Try.ntmps127 rfl rfl rfl ?_
  repeat' first
 | (apply p1 (hd:=rfl);case hop=>first|(apply D_move;rfl)|(apply D_assign;rfl)|(apply D_pc (is_pc o);rfl;exact .same rfl .nil)|(apply D_pc (list_pc o b);rfl;exact .same rfl (.same rfl .nil))|(apply D_pc (parts_pc o a);rfl;exact .same rfl (.same rfl .nil))|(apply D_not;rfl)|(apply D_loadW;rfl;rfl)|(apply D_box;rfl;rfl))
 | refine W_seq ?_
 | refine W_region ?_
 | (refine idC ?_;refine cs rfl (fun _=>?_) (fun _=>?_))
 | refine WL_nil ?_
 | refine tn ?_
 | refine tr ?_
 | refine W_skip ?_
 | refine W_block ?_
 | refine W_ret ?_
 | refine W_label ?_
 | refine W_scope ?_
 | refine sr ?_
 | (refine idR ?_;refine ret1 rfl rfl rfl ?_)
 | (refine idLd ?_;refine p1L (D_loadB1 rfl rfl rfl) rfl ?_)
 | (refine idA ?_;refine m_alloc rfl ?_)
 | (refine idS ?_;refine pS (S_store rfl rfl rfl rfl rfl rfl rfl) ?_)
 | (refine Le.int ?_)
  · rename_i h1
    rw [if_neg h1]
  rename_i h1
  rw [if_pos h1]
  refine W_range (.inl rfl) fun r=>?_
  refine parts1_acC o a r (fun i=>∀ (j : Nat) (h : j < (part7 o a).length) (h' : j < (part7 o b).length),j < i → standI (part7 o a)[j] (part7 o b)[j] = 0) (fun j h h' hj=>absurd hj (Nat.not_lt_zero j)) ?_ ?_
  · intro i hi hc
    have hib : i < (part7 o b).length:=hi
    refine YW.round (r:=3) rfl rfl rfl ?_
    repeat' first
 | (apply p1 (hd:=rfl);case hop=>first|(apply D_assign;rfl))
 | refine W_seq ?_
 | refine W_region ?_
 | refine WL_nil ?_
 | refine tn ?_
 | (refine idA ?_;refine m_var rfl rfl rfl rfl rfl rfl rfl ?_)
    refine ⟨rfl,rfl,?_⟩
    repeat' first
 | (apply p1 (hd:=rfl);case hop=>first|(apply D_int;rfl;rfl;rfl))
 | refine W_seq ?_
 | refine W_region ?_
 | (refine idC ?_;refine cs rfl (fun _=>?_) (fun _=>?_))
 | refine WL_nil ?_
 | refine tn ?_
 | refine bn ?_
 | (refine idB ?_;refine bm rfl ?_)
 | refine W_skip ?_
 | refine W_block ?_
 | refine W_exit ?_
 | (refine idLd ?_;refine p1L (D_loadB1 rfl rfl rfl) rfl ?_)
 | (refine idW ?_;refine W_draw0 rfl ?_)
 | (apply d1 (hd:=rfl);case hop=>first|(apply D_move;rfl)|(apply D_pc (stand_pc ((part7 o a)[i]) ((part7 o b)[i]));rfl;exact .same rfl (.same rfl .nil))|(apply D_loadW;rfl;rfl)|(apply D_idxAn;rfl;rfl;(first|omega|(simp;done))))
 | (refine idDn ?_;first|refine dL _ (fun hp' hs=>D_loadB1 rfl (hs.trans rfl) rfl) rfl ?_|refine dS (S_store rfl rfl rfl rfl rfl rfl rfl) rfl ?_)
 | (refine WD_nil (by first|decide +kernel|kernel_rfl|rfl) ?_)
    · rename_i h3
      refine ⟨rfl,⟨_,_,rfl⟩,.inr ⟨rfl,_,_,rfl,by decide,?_⟩⟩
      repeat' first
 | (apply p1 (hd:=rfl);case hop=>first|(apply D_assign;rfl))
 | refine W_seq ?_
 | refine W_region ?_
 | refine WL_nil ?_
 | refine tn ?_
 | (refine idB ?_;refine bh rfl ?_)
 | refine W_ret ?_
 | refine sr ?_
 | (refine idR ?_;first|refine rL1 rfl (by first|exact trivial|exact ⟨rfl,trivial⟩) (by first|exact ResO.tmp rfl|exact ResO.cellBA rfl rfl rfl|exact ResO.cellB1 rfl rfl rfl|exact ResO.cellEA rfl rfl|exact ResO.cellE1 rfl) ?_)
 | (refine idLd ?_;refine p1L (D_loadB1 rfl rfl rfl) rfl ?_)
 | (refine Le.int ?_)
      exact (cmpPs_at (a:=part7 o a) (b:=part7 o b) i hi hib hc h3).symm
    · rename_i h3
      refine ⟨rfl,⟨_,_,rfl⟩,.inl ⟨rfl,?_,fun j h h' hj=>?_⟩⟩
      · show [AObj.cells [.sc (.int .i64 (standI ((part7 o a)[i]) ((part7 o b)[i])))],_,_,_] = _
        rw [h3];rfl
      · by_cases e : j = i
        · subst e;exact h3
        · exact hc j h h' (by omega)
  · intro hc
    refine ⟨_,_,rfl,by decide,?_⟩
    repeat' first
 | (apply p1 (hd:=rfl);case hop=>first|(apply D_assign;rfl))
 | refine W_seq ?_
 | refine W_region ?_
 | refine WL_nil ?_
 | refine tn ?_
 | refine bn ?_
 | refine W_ret ?_
 | refine sr ?_
 | (refine idR ?_;first|refine rL1 rfl (by first|exact trivial|exact ⟨rfl,trivial⟩) (by first|exact ResO.tmp rfl|exact ResO.cellBA rfl rfl rfl|exact ResO.cellB1 rfl rfl rfl|exact ResO.cellEA rfl rfl|exact ResO.cellE1 rfl) ?_)
 | (refine idLd ?_;refine p1L (D_loadB1 rfl rfl rfl) rfl ?_)
 | (refine Le.int ?_)
    exact (cmpPs_end (a:=part7 o a) (b:=part7 o b) 7 (.inl (Nat.le_of_eq (part7_len o a))) fun j h h' hj=>hc j h h' hj).symm
theorem pow256 : (256 : Nat) ^ 8 = 18446744073709551616:=by decide
theorem MayP_cases {v : Val} (h : mayB v = true) : (v.kind = 1 ∧ v.s = []) ∨ (v.kind = 2 ∧ v.s = [] ∧ 0 ≤ v.n ∧ v.n ≤ 1) ∨ ((v.kind = 3 ∨ v.kind = 4 ∨ v.kind = 7) ∧ v.n = 0) ∨ ((v.kind = 5 ∨ v.kind = 6) ∧ v.s = []):=by
  simp only [mayB,dP_t,MayP] at h
  rcases h with h|h|h|h|h <;> simp_all <;> omega
theorem u8i_nat (n : Int) (h0 : 0 ≤ n) (h : n < 256) : ((u8i n).toNat : Int) = n:=by
  simp only [u8i,UInt8.toNat_ofNat'];omega
theorem cb_lt {x y : UInt8} {a b : List UInt8} (h : x.toNat < y.toNat) : Lib.compareBytes (x :: a) (y :: b) = -1:=by
  rw [Lib.compareBytes,if_pos (UInt8.lt_iff_toNat_lt.2 h)]
theorem cb_gt {x y : UInt8} {a b : List UInt8} (h : y.toNat < x.toNat) : Lib.compareBytes (x :: a) (y :: b) = 1:=by
  rw [Lib.compareBytes,if_neg (by rw [UInt8.lt_iff_toNat_lt];omega),if_pos (UInt8.lt_iff_toNat_lt.2 h)]
theorem cb_eq (x : UInt8) (a b : List UInt8) : Lib.compareBytes (x :: a) (x :: b) = Lib.compareBytes a b:=by
  rw [Lib.compareBytes,if_neg (by rw [UInt8.lt_iff_toNat_lt];omega),if_neg (by rw [UInt8.lt_iff_toNat_lt];omega)]
theorem cb_lowb (V W : Nat) (x y : List UInt8) : ∀ i,Lib.compareBytes (lowb V i ++ x) (lowb W i ++ y) = if V % 256 ^ i = W % 256 ^ i then Lib.compareBytes x y else if V % 256 ^ i < W % 256 ^ i then -1 else 1
  | 0=>by simp [lowb,Nat.mod_one]
  | i + 1=>by
    have ih:=cb_lowb V W x y i
    have hp : 0 < 256 ^ i:=Nat.pow_pos (by decide)
    have e1:=Nat.mod_mul (x:=V) (a:=256 ^ i) (b:=256)
    have e2:=Nat.mod_mul (x:=W) (a:=256 ^ i) (b:=256)
    rw [Nat.pow_succ,e1,e2]
    have l1:=Nat.mod_lt V hp
    have l2:=Nat.mod_lt W hp
    have n1 : (nb V i).toNat = V / 256 ^ i % 256:=by simp [nb]
    have n2 : (nb W i).toNat = W / 256 ^ i % 256:=by simp [nb]
    simp only [lowb,List.cons_append]
    generalize V / 256 ^ i % 256 = a at *
    generalize W / 256 ^ i % 256 = b at *
    generalize V % 256 ^ i = r at *
    generalize W % 256 ^ i = q at *
    generalize 256 ^ i = m at *
    rcases Nat.lt_trichotomy a b with h|h|h
    · have hm : m * (a + 1) ≤ m * b:=Nat.mul_le_mul_left m h
      rw [Nat.mul_add] at hm
      rw [cb_lt (by omega),if_neg (by omega),if_pos (by omega)]
    · subst h
      have e : nb V i = nb W i:=UInt8.toNat.inj (by rw [n1,n2])
      rw [e,cb_eq,ih]
      by_cases hq : r = q
      · rw [if_pos hq,if_pos (show r + m * a = q + m * a by omega)]
      · by_cases hl : r < q
        · rw [if_neg hq,if_pos hl,if_neg (show ¬ r + m * a = q + m * a by omega),if_pos (show r + m * a < q + m * a by omega)]
        · rw [if_neg hq,if_neg hl,if_neg (show ¬ r + m * a = q + m * a by omega),if_neg (show ¬ r + m * a < q + m * a by omega)]
    · have hm : m * (b + 1) ≤ m * a:=Nat.mul_le_mul_left m h
      rw [Nat.mul_add] at hm
      rw [cb_gt (by omega),if_neg (by omega),if_neg (by omega)]
theorem cb_num {n m : Int} (hn : i64P n) (hm : i64P m) (x y : List UInt8) : Lib.compareBytes (num8 n ++ x) (num8 m ++ y) = if n = m then Lib.compareBytes x y else cmpI n m:=by
  have h1:=num64_i n
  have h2:=num64_lt n
  have h3:=num64_i m
  have h4:=num64_lt m
  unfold num8
  rw [cb_lowb,pow256,Nat.mod_eq_of_lt h2,Nat.mod_eq_of_lt h4]
  unfold i64P at hn hm
  by_cases e : n = m
  · subst e;simp
  · rw [if_neg (by omega),if_neg e]
    unfold cmpI
    by_cases hl : n < m
    · rw [if_pos hl,if_pos (by omega)]
    · rw [if_neg hl,if_neg (by omega),if_pos (by omega)]
theorem cb_text (x y : List UInt8) : ∀ (s t : List UInt8),Lib.compareBytes (textB s ++ x) (textB t ++ y) = if s = t then Lib.compareBytes x y else Lib.compareBytes s t
  | [],[]=>by
    simp only [textB,esc,List.flatMap_nil,List.nil_append,List.cons_append,if_true,cb_eq]
  | [],c :: t=>by
    rw [if_neg (by simp)]
    by_cases h : c = 0
    · have e : textB (c :: t) ++ y = 0 :: 255 :: (textB t ++ y):=by simp [textB,esc,h]
      rw [e]
      show Lib.compareBytes (0 :: 1 :: x) (0 :: 255 :: (textB t ++ y)) = _
      rw [cb_eq,cb_lt (by decide)];rfl
    · have e : textB (c :: t) ++ y = c :: (textB t ++ y):=by simp [textB,esc,h]
      rw [e]
      show Lib.compareBytes (0 :: 1 :: x) (c :: (textB t ++ y)) = _
      have : c.toNat ≠ 0:=fun h0=>h (UInt8.toNat.inj h0)
      rw [cb_lt (by show 0 < c.toNat;omega)];rfl
  | c :: s,[]=>by
    rw [if_neg (by simp)]
    by_cases h : c = 0
    · have e : textB (c :: s) ++ x = 0 :: 255 :: (textB s ++ x):=by simp [textB,esc,h]
      rw [e]
      show Lib.compareBytes (0 :: 255 :: (textB s ++ x)) (0 :: 1 :: y) = _
      rw [cb_eq,cb_gt (by decide)];rfl
    · have e : textB (c :: s) ++ x = c :: (textB s ++ x):=by simp [textB,esc,h]
      rw [e]
      show Lib.compareBytes (c :: (textB s ++ x)) (0 :: 1 :: y) = _
      have : c.toNat ≠ 0:=fun h0=>h (UInt8.toNat.inj h0)
      rw [cb_gt (by show 0 < c.toNat;omega)];rfl
  | a :: s,c :: t=>by
    have ih:=cb_text x y s t
    have e0 : ∀ (q : List UInt8) (z : List UInt8),textB (0 :: q) ++ z = 0 :: 255 :: (textB q ++ z):=fun q z=>by simp [textB,esc]
    have e1 : ∀ (d : UInt8) (q : List UInt8) (z : List UInt8),d ≠ 0 → textB (d :: q) ++ z = d :: (textB q ++ z):=fun d q z h=>by simp [textB,esc,h]
    have step : ∀ d : UInt8,(if s = t then Lib.compareBytes x y else Lib.compareBytes s t) = if d :: s = d :: t then Lib.compareBytes x y else Lib.compareBytes (d :: s) (d :: t):=fun d=>by
      by_cases h : s = t
      · rw [if_pos h,if_pos (by rw [h])]
      · rw [if_neg h,if_neg (by simp [h]),cb_eq]
    by_cases ha : a = 0
    · by_cases hc : c = 0
      · subst ha;subst hc
        rw [e0,e0,cb_eq,cb_eq,ih,step 0]
      · subst ha
        have : c.toNat ≠ 0:=fun h0=>hc (UInt8.toNat.inj h0)
        rw [e0,e1 c t y hc,cb_lt (by show 0 < c.toNat;omega),if_neg (by intro h;injection h with h _;exact hc h.symm),cb_lt (by show 0 < c.toNat;omega)]
    · by_cases hc : c = 0
      · subst hc
        have : a.toNat ≠ 0:=fun h0=>ha (UInt8.toNat.inj h0)
        rw [e0,e1 a s x ha,cb_gt (by show 0 < a.toNat;omega),if_neg (by intro h;injection h with h _;exact ha h),cb_gt (by show 0 < a.toNat;omega)]
      · rw [e1 a s x ha,e1 c t y hc]
        rcases Nat.lt_trichotomy a.toNat c.toNat with h|h|h
        · rw [cb_lt h,if_neg (by intro e;injection e with e _;rw [e] at h;omega),cb_lt h]
        · have : a = c:=UInt8.toNat.inj h
          subst this
          rw [cb_eq,ih,step a]
        · rw [cb_gt h,if_neg (by intro e;injection e with e _;rw [e] at h;omega),cb_gt h]
noncomputable instance : DecidableEq Val:=fun _ _=>Classical.propDecidable _
theorem cmpI_self (n : Int) : cmpI n n = 0:=(cmpI_z n n).2 rfl
theorem cb_val {v w : Val} (hv : mayB v = true) (hw : mayB w = true) (iv : i64P v.n) (iw : i64P w.n) (x y : List UInt8) : Lib.compareBytes (valB v ++ x) (valB w ++ y) = if v = w then Lib.compareBytes x y else cmpV v w:=by
  have k1:=kind_of hv
  have k2:=kind_of hw
  have c1:=MayP_cases hv
  have c2:=MayP_cases hw
  have n1:=u8i_nat v.kind (by omega) (by omega)
  have n2:=u8i_nat w.kind (by omega) (by omega)
  obtain ⟨k,n,s⟩:=v
  obtain ⟨k',n',s'⟩:=w
  simp only at *
  simp only [valB,List.cons_append,List.nil_append,cmpV,orI,Val.mk.injEq]
  by_cases hk : k = k'
  · subst hk
    rw [cb_eq,cmpI_self,if_pos rfl]
    by_cases h2 : k = 2
    · rw [if_pos h2,if_pos h2]
      have g : (s = [] ∧ 0 ≤ n ∧ n ≤ 1) ∧ (s' = [] ∧ 0 ≤ n' ∧ n' ≤ 1):=by
        subst h2;constructor <;> simp_all
      obtain ⟨⟨rfl,g1,g2⟩,⟨rfl,g3,g4⟩⟩:=g
      have m1:=u8i_nat n g1 (by omega)
      have m2:=u8i_nat n' g3 (by omega)
      simp only [List.cons_append,List.nil_append]
      rcases Int.lt_trichotomy n n' with h|h|h
      · rw [cb_lt (by omega),if_neg (by intro e;omega)]
        simp [cmpI,h]
      · subst h;rw [cb_eq,if_pos (by simp)]
      · rw [cb_gt (by omega),if_neg (by intro e;omega)]
        have : ¬ n < n':=by omega
        simp [cmpI,this,h]
    · rw [if_neg h2,if_neg h2]
      by_cases h3 : k = 3 ∨ k = 4 ∨ k = 7
      · rw [if_pos h3,if_pos h3,cb_text]
        have g : n = 0 ∧ n' = 0:=by
          constructor
          · rcases c1 with h|h|h|h
            · omega
            · omega
            · exact h.2
            · omega
          · rcases c2 with h|h|h|h
            · omega
            · omega
            · exact h.2
            · omega
        obtain ⟨rfl,rfl⟩:=g
        rw [cmpI_self,if_pos rfl]
        by_cases e : s = s'
        · rw [if_pos e,if_pos (by simp [e])]
        · rw [if_neg e,if_neg (by simp [e])]
          have hz:=cmpB_z s s'
          rw [if_neg (fun h=>e (hz.1 h))]
      · rw [if_neg h3,if_neg h3,cb_num iv iw]
        have g : s = [] ∧ s' = []:=by
          constructor
          · rcases c1 with h|h|h|h
            · exact h.2
            · exact h.2.1
            · exact absurd h.1 h3
            · exact h.2
          · rcases c2 with h|h|h|h
            · exact h.2
            · exact h.2.1
            · exact absurd h.1 h3
            · exact h.2
        obtain ⟨rfl,rfl⟩:=g
        by_cases e : n = n'
        · rw [if_pos e,if_pos (by simp [e])]
        · rw [if_neg e,if_neg (by simp [e]),if_neg (fun h=>e ((cmpI_z _ _).1 h))]
  · rw [if_neg (show ¬(k = k' ∧ n = n' ∧ s = s') from fun e=>hk e.1)]
    have hne : cmpI k k' ≠ 0:=fun h=>hk ((cmpI_z _ _).1 h)
    rw [if_neg hne]
    rcases Int.lt_trichotomy k k' with h|h|h
    · rw [cb_lt (by omega)];simp [cmpI,h]
    · exact absurd h hk
    · rw [cb_gt (by omega)]
      have : ¬ k < k':=by omega
      simp [cmpI,this,h]
theorem cb_part {p q : Prt} (hf : p.value = q.value) (hp : PartP p) (hq : PartP q) (ip : prtI p) (iq : prtI q) (x y : List UInt8) : Lib.compareBytes (partB p ++ x) (partB q ++ y) = if standI p q = 0 then Lib.compareBytes x y else standI p q:=by
  unfold partB standI
  by_cases e : p.value = true
  · have e' : q.value = true:=hf ▸ e
    rw [if_pos e,if_pos e',cb_val (hp e) (hq e') ip.2 iq.2]
    simp only [if_pos e]
    by_cases h : p.v = q.v
    · rw [if_pos h,if_pos ((cmpV_z _ _).2 h)]
    · rw [if_neg h,if_neg (fun h'=>h ((cmpV_z _ _).1 h'))]
  · have e' : ¬ q.value = true:=hf ▸ e
    rw [if_neg e,if_neg e',cb_num ip.1 iq.1]
    simp only [if_neg e]
    by_cases h : p.n = q.n
    · rw [if_pos h,if_pos ((cmpI_z _ _).2 h)]
    · rw [if_neg h,if_neg (fun h'=>h ((cmpI_z _ _).1 h'))]
theorem cb_key : ∀ (l m : List Prt),l.map Prt.value = m.map Prt.value → (∀ p,p ∈ l → PartP p ∧ prtI p) → (∀ p,p ∈ m → PartP p ∧ prtI p) → Lib.compareBytes (l.flatMap partB) (m.flatMap partB) = cmpPs l m
  | [],[],_,_,_=>by simp [cmpPs,Lib.compareBytes]
  | [],_ :: _,h,_,_=>by simp at h
  | _ :: _,[],h,_,_=>by simp at h
  | p :: l,q :: m,h,hl,hm=>by
    simp only [List.map_cons,List.cons.injEq] at h
    have hp:=hl p (.head _)
    have hq:=hm q (.head _)
    rw [List.flatMap_cons,List.flatMap_cons,cb_part h.1 hp.1 hq.1 hp.2 hq.2,cb_key l m h.2 (fun p hp=>hl p (.tail _ hp)) (fun p hp=>hm p (.tail _ hp)),cmpPs]
def datI (d : Dat) : Prop:=i64P d.e ∧ i64P d.a ∧ i64P d.v.n ∧ i64P d.t ∧ i64P d.fr ∧ i64P d.to
theorem part7_I {o : Int} {d : Dat} (h : datI d) : ∀ p,p ∈ part7 o d → prtI p:=by
  have h0 : i64P val0.n:=by unfold i64P val0;decide
  have h0' : i64P 0:=h0
  have hadd : i64P (if d.add then 0 else 1):=by unfold i64P;split <;> decide
  obtain ⟨h1,h2,h3,h4,h5,h6⟩:=h
  intro p hp
  simp only [part7,List.mem_cons,List.not_mem_nil,or_false] at hp
  rcases hp with rfl|rfl|rfl|rfl|rfl|rfl|rfl
  · unfold fst1;split <;> (try split) <;> (try split) <;> first|exact ⟨h0',h3⟩|exact ⟨h1,h0⟩|exact ⟨h2,h0⟩
  · unfold fst2;split <;> (try split) <;> (try split) <;> first|exact ⟨h0',h3⟩|exact ⟨h1,h0⟩|exact ⟨h2,h0⟩
  · unfold fst3;split <;> (try split) <;> (try split) <;> first|exact ⟨h0',h3⟩|exact ⟨h1,h0⟩|exact ⟨h2,h0⟩
  · exact ⟨h4,h0⟩
  · exact ⟨hadd,h0⟩
  · exact ⟨h5,h0⟩
  · exact ⟨h6,h0⟩
theorem part7_val (o : Int) (d : Dat) : (part7 o d).map Prt.value = kindsO o:=by
  apply List.ext_getElem?
  intro i
  rcases Nat.lt_or_ge i 7 with h|h
  · have:=part7_flag o d i h
    simp only [kindsO,List.getElem?_map]
    rw [List.getElem?_eq_getElem (show i < (part7 o d).length from h),List.getElem?_eq_getElem (show i < (part7 o dat0).length from h)]
    exact congrArg some this
  · rw [List.getElem?_eq_none (by simp [part7_len];exact h),List.getElem?_eq_none (by simp [kindsO,part7_len];exact h)]
theorem dkey_ok {o : Int} {d : Dat} (h : dkeyE o d = 0) : (1 ≤ o ∧ o ≤ 4) ∧ dmayP d ∧ hasP o d ∧ dkeyB o d = (part7 o d).flatMap partB:=by
  unfold dkeyE at h
  split at h
  · rename_i h1
    split at h
    · rename_i h2
      refine ⟨h1,h2.1,h2.2,?_⟩
      rw [dkeyB,if_pos h1,if_pos h2]
    · cases h
  · cases h
theorem key_cmp {o : Int} {a b : Dat} (ia : datI a) (ib : datI b) (ha : dkeyE o a = 0) (hb : dkeyE o b = 0) : Lib.compareBytes (dkeyB o a) (dkeyB o b) = if 1 ≤ o ∧ o ≤ 4 then cmpPs (part7 o a) (part7 o b) else 0:=by
  obtain ⟨h1,h2,h3,h4⟩:=dkey_ok ha
  obtain ⟨_,g2,g3,g4⟩:=dkey_ok hb
  rw [if_pos h1,h4,g4]
  exact cb_key _ _ (by rw [part7_val,part7_val]) (fun p hp=>⟨part7_P h2.2.2.2.2.1 p hp,part7_I ia p hp⟩) (fun p hp=>⟨part7_P g2.2.2.2.2.1 p hp,part7_I ib p hp⟩)
theorem wc_cmpI : WC cmpI:=by
  constructor
  · intro x y;unfold cmpI;split <;> split <;> (try split) <;> (try split) <;> omega
  · intro x y z;unfold cmpI;intro h1 h2
    split at h1 <;> split at h2 <;> (try split at h1) <;> (try split at h2) <;> split <;> (try split) <;> omega
theorem cb_cases (x y : UInt8) (a b : List UInt8) : (x.toNat < y.toNat ∧ Lib.compareBytes (x :: a) (y :: b) = -1 ∧ Lib.compareBytes (y :: b) (x :: a) = 1) ∨ (y.toNat < x.toNat ∧ Lib.compareBytes (x :: a) (y :: b) = 1 ∧ Lib.compareBytes (y :: b) (x :: a) = -1) ∨
    (x = y ∧ Lib.compareBytes (x :: a) (y :: b) = Lib.compareBytes a b ∧ Lib.compareBytes (y :: b) (x :: a) = Lib.compareBytes b a):=by
  rcases Nat.lt_trichotomy x.toNat y.toNat with h|h|h
  · exact .inl ⟨h,cb_lt h,cb_gt h⟩
  · have e : x = y:=UInt8.toNat.inj h
    subst e;exact .inr (.inr ⟨rfl,cb_eq _ _ _,cb_eq _ _ _⟩)
  · exact .inr (.inl ⟨h,cb_gt h,cb_lt h⟩)
theorem cb_anti : ∀ a b : List UInt8,Lib.compareBytes a b < 0 ↔ 0 < Lib.compareBytes b a
  | [],[]=>by simp [Lib.compareBytes]
  | [],y :: b=>by simp [Lib.compareBytes]
  | x :: a,[]=>by simp [Lib.compareBytes]
  | x :: a,y :: b=>by
    have ih:=cb_anti a b
    rcases cb_cases x y a b with ⟨_,e1,e2⟩ | ⟨_,e1,e2⟩ | ⟨_,e1,e2⟩
    · rw [e1,e2];omega
    · rw [e1,e2];omega
    · rw [e1,e2];exact ih
theorem cb_le : ∀ a b c : List UInt8,Lib.compareBytes a b ≤ 0 → Lib.compareBytes b c ≤ 0 → Lib.compareBytes a c ≤ 0
  | [],b,[],_,_=>by simp [Lib.compareBytes]
  | [],b,z :: c,_,_=>by simp [Lib.compareBytes]
  | x :: a,[],c,h,_=>by simp [Lib.compareBytes] at h
  | x :: a,y :: b,[],_,h=>by simp [Lib.compareBytes] at h
  | x :: a,y :: b,z :: c,h1,h2=>by
    have ih:=cb_le a b c
    rcases cb_cases x y a b with ⟨p,e1,_⟩ | ⟨p,e1,_⟩ | ⟨p,e1,_⟩
    · rcases cb_cases y z b c with ⟨q,e3,_⟩ | ⟨q,e3,_⟩ | ⟨q,e3,_⟩
      · rw [cb_lt (by omega)];omega
      · rw [e3] at h2;omega
      · subst q;rw [cb_lt p];omega
    · rw [e1] at h1;omega
    · subst p
      rcases cb_cases x z b c with ⟨q,e3,_⟩ | ⟨q,e3,_⟩ | ⟨q,e3,_⟩
      · rw [cb_lt q];omega
      · rw [e3] at h2;omega
      · subst q;rw [cb_eq];rw [e1] at h1;rw [e3] at h2;exact ih h1 h2
theorem wc_cb : WC Lib.compareBytes:=⟨cb_anti,cb_le⟩
theorem wc_cmpV : WC cmpV:=by
  have e : cmpV = fun a b=>if cmpI a.kind b.kind = 0 then (if cmpI a.n b.n = 0 then Lib.compareBytes a.s b.s else cmpI a.n b.n) else cmpI a.kind b.kind:=by
    funext a b
    simp only [cmpV,orI]
    split
    · split
      · split
        · rename_i h;exact h.symm
        · rfl
      · rfl
    · rfl
  rw [e]
  exact (wc_cmpI.comap Val.kind).lex ((wc_cmpI.comap Val.n).lex (wc_cb.comap Val.s))
def lexD : List (Dat → Dat → Int) → Dat → Dat → Int
  | [],_,_=>0
  | c :: cs,a,b=>if c a b = 0 then lexD cs a b else c a b
theorem wc_lexD : ∀ {cs : List (Dat → Dat → Int)},(∀ c,c ∈ cs → WC c) → WC (lexD cs)
  | [],_=>⟨fun _ _=>by simp [lexD],fun _ _ _ _ _=>by simp [lexD]⟩
  | c :: cs,h=>(h c (.head _)).lex (wc_lexD fun d hd=>h d (.tail _ hd))
def cmpD (o : Int) (a b : Dat) : Int:=cmpPs (part7 o a) (part7 o b)
abbrev cE (a b : Dat) : Int:=cmpI a.e b.e
abbrev cA (a b : Dat) : Int:=cmpI a.a b.a
abbrev cVv (a b : Dat) : Int:=cmpV a.v b.v
abbrev cRest : List (Dat → Dat → Int):=[fun a b=>cmpI a.t b.t,fun a b=>cmpI (if a.add then 0 else 1) (if b.add then 0 else 1),fun a b=>cmpI a.fr b.fr,fun a b=>cmpI a.to b.to]
theorem wc_cmpD (o : Int) : WC (cmpD o):=by
  have hr : ∀ c,c ∈ cRest → WC c:=fun c hc=>by
    simp only [cRest,List.mem_cons,List.not_mem_nil,or_false] at hc
    rcases hc with rfl|rfl|rfl|rfl
    · exact wc_cmpI.comap Dat.t
    · exact wc_cmpI.comap fun d : Dat=>if d.add then 0 else 1
    · exact wc_cmpI.comap Dat.fr
    · exact wc_cmpI.comap Dat.to
  have h3 : ∀ c1 c2 c3 : Dat → Dat → Int,WC c1 → WC c2 → WC c3 → WC (lexD (c1 :: c2 :: c3 :: cRest)):=fun c1 c2 c3 h1 h2 h3=>h1.lex (h2.lex (h3.lex (wc_lexD hr)))
  have wE : WC cE:=wc_cmpI.comap Dat.e
  have wA : WC cA:=wc_cmpI.comap Dat.a
  have wV : WC cVv:=wc_cmpV.comap Dat.v
  by_cases h1 : o = 1
  · subst h1
    have e : cmpD 1 = lexD (cE :: cA :: cVv :: cRest):=by funext a b;rfl
    rw [e];exact h3 _ _ _ wE wA wV
  · by_cases h2 : o = 2
    · subst h2
      have e : cmpD 2 = lexD (cA :: cE :: cVv :: cRest):=by funext a b;rfl
      rw [e];exact h3 _ _ _ wA wE wV
    · by_cases h3' : o = 3
      · subst h3'
        have e : cmpD 3 = lexD (cA :: cVv :: cE :: cRest):=by funext a b;rfl
        rw [e];exact h3 _ _ _ wA wV wE
      · have e4 : ∀ d,part7 o d = part7 4 d:=fun d=>by simp [part7,fst1,fst2,fst3,h1,h2,h3']
        have e : cmpD o = lexD (cVv :: cA :: cE :: cRest):=by funext a b;unfold cmpD;rw [e4,e4];rfl
        rw [e];exact h3 _ _ _ wV wA wE
theorem cmpD_z (o : Int) (a b : Dat) (h : cmpD o a b = 0) : a = b:=by
  obtain ⟨e,c,v,t,ad,fr,to⟩:=a
  obtain ⟨e',c',v',t',ad',fr',to'⟩:=b
  have key : ∀ (x1 x2 x3 y1 y2 y3 : Prt),(standI x1 y1 = 0 → standI x2 y2 = 0 → standI x3 y3 = 0 → e = e' ∧ c = c' ∧ v = v') →
      cmpPs [x1,x2,x3,prtN t,prtN (if ad then 0 else 1),prtN fr,prtN to] [y1,y2,y3,prtN t',prtN (if ad' then 0 else 1),prtN fr',prtN to'] = 0 → (⟨e,c,v,t,ad,fr,to⟩ : Dat) = ⟨e',c',v',t',ad',fr',to'⟩:=by
    intro x1 x2 x3 y1 y2 y3 hk g
    simp only [cmpPs] at g
    by_cases h1 : standI x1 y1 = 0
    · rw [if_pos h1] at g
      by_cases h2 : standI x2 y2 = 0
      · rw [if_pos h2] at g
        by_cases h3 : standI x3 y3 = 0
        · rw [if_pos h3] at g
          obtain ⟨rfl,rfl,rfl⟩:=hk h1 h2 h3
          have hn : ∀ m n : Int,standI (prtN m) (prtN n) = 0 → m = n:=fun m n e=>(cmpI_z m n).1 e
          by_cases h4 : standI (prtN t) (prtN t') = 0
          · rw [if_pos h4] at g
            by_cases h5 : standI (prtN (if ad then 0 else 1)) (prtN (if ad' then 0 else 1)) = 0
            · rw [if_pos h5] at g
              by_cases h6 : standI (prtN fr) (prtN fr') = 0
              · rw [if_pos h6] at g
                by_cases h7 : standI (prtN to) (prtN to') = 0
                · have e4:=hn _ _ h4
                  have e5:=hn _ _ h5
                  have e6:=hn _ _ h6
                  have e7:=hn _ _ h7
                  have e8 : ad = ad':=by cases ad <;> cases ad' <;> simp at e5 ⊢
                  rw [e4,e6,e7,e8]
                · rw [if_neg h7] at g;exact absurd g h7
              · rw [if_neg h6] at g;exact absurd g h6
            · rw [if_neg h5] at g;exact absurd g h5
          · rw [if_neg h4] at g;exact absurd g h4
        · rw [if_neg h3] at g;exact absurd g h3
      · rw [if_neg h2] at g;exact absurd g h2
    · rw [if_neg h1] at g;exact absurd g h1
  refine key _ _ _ _ _ _ ?_ h
  have hn : ∀ m n : Int,standI (prtN m) (prtN n) = 0 → m = n:=fun m n e=>(cmpI_z m n).1 e
  have hv : ∀ m n : Val,standI (prtV m) (prtV n) = 0 → m = n:=fun m n e=>(cmpV_z m n).1 e
  unfold fst1 fst2 fst3
  intro g1 g2 g3
  split at g1
  · rename_i h1
    simp only [h1,if_true] at g1 g2 g3
    exact ⟨hn _ _ g1,hn _ _ g2,hv _ _ g3⟩
  · rename_i h1
    split at g1
    · rename_i h2
      simp only [h1,h2,if_true,if_false] at g1 g2 g3
      exact ⟨hn _ _ g2,hn _ _ g1,hv _ _ g3⟩
    · rename_i h2
      split at g1
      · rename_i h3
        simp only [h1,h2,h3,if_true,if_false] at g1 g2 g3
        exact ⟨hn _ _ g3,hn _ _ g1,hv _ _ g2⟩
      · rename_i h3
        simp only [h1,h2,h3,if_true,if_false] at g1 g2 g3
        exact ⟨hn _ _ g3,hn _ _ g2,hv _ _ g1⟩
end Go.Proofs
